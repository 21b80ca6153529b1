import Derived.Test.YtelhfbikiccfkaaGreatDac
set_option linter.unusedSimpArgs false
set_option linter.unusedVariables false
namespace Pm
open Go Go.RowKit
def emap{α:Type}(g:α→List PV)(l:List α):List (List PV):=l.map g
def aG{α:Type}(g:α→List PV)(l:List α):PV:=.sl (emap g l)
def nth{α:Type}[Inhabited α](l:List α)(i:Nat):α:=l[i]?.getD default
def Enc{α:Type}(g:α→List PV)(n:Nat):Prop:=∀x,(g x).length=n
def aso{α:Type}(g:α→List PV):Prop:=∀x,(g x).all dB=true
def cD(o:Option Row)(ver:Nat)(K:Row→Prop):Prop:=∃r,o=some r∧r.ver=ver∧K r
@[congr] theorem agL{o o':Option Row}{ver:Nat}{K:Row→Prop}(h:o=o'):cD o ver K=cD o' ver K:=by rw [h]
@[simp] theorem ahx{r:Row}{ver:Nat}{K:Row→Prop}:cD (some r) ver K=aK (r.ver=ver) (K r):=by simp [cD,aK]
def HX(els:List (List PV))(i:Nat)(K:List PV→Prop):Prop:=∃el,els[i]? = some el∧K el
@[congr] theorem aqa{l l':List (List PV)}{i i':Nat}{K:List PV→Prop}(h:l=l')(hi:i=i'):HX l i K=HX l' i' K:=by rw [h,hi]
@[simp] theorem NS{α:Type}[Inhabited α]{g:α→List PV}{l:List α}{i:Nat}{K:List PV→Prop}:HX (emap g l) i K=aK (i<l.length) (K (g (nth l i))):=by
 simp only [HX,emap,aK,nth]
 apply propext
 constructor
 ·rintro⟨el,h1,h2⟩
  simp at h1
  obtain⟨x,h1,rfl⟩:=h1
  have:=(List.getElem?_eq_some_iff.1 h1).1
  rw [h1]
  exact⟨this,h2⟩
 ·rintro⟨h1,h2⟩
  rw [List.getElem?_eq_getElem h1]at h2
  exact⟨g l[i],by simp [h1],h2⟩
@[simp] theorem asp{e:List PV}{es:List (List PV)}{K:List PV→Prop}:HX (e::es) 0 K=go (K e):=by show _=K e;simp [HX]
@[simp] theorem asq{e:List PV}{es:List (List PV)}{i:Nat}{K:List PV→Prop}:HX (e::es) (i+1) K=HX es i K:=by simp [HX]
def mW{α:Type}(l:List α)(i:Nat):Option α:=l[i]?
@[simp] theorem aqb{α:Type}{x:α}{l:List α}:mW (x::l) 0=some x:=rfl
@[simp] theorem aqc{α:Type}{x:α}{l:List α}{n:Nat}:mW (x::l) (n+1)=mW l n:=rfl
def gI{α:Type}(o:Option α)(K:α→Prop):Prop:=∃v,o=some v∧K v
@[congr] theorem amM{α:Type}{o o':Option α}{K:α→Prop}(h:o=o'):gI o K=gI o' K:=by rw [h]
@[simp] theorem aqd{α:Type}{x:α}{K:α→Prop}:gI (some x) K=go (K x):=by show _=K x;simp [gI]
def BB(ti:TI)(l:List PV)(j:Nat)(K:PV→Prop):Prop:=if ti.agg=true then aK (j+ti.size≤l.length) (K (.ag ((l.drop j).take ti.size)))else gI (mW l j) K
@[congr] theorem aqe{t t':TI}{l l':List PV}{j:Nat}{K:PV→Prop}(h1:t=t')(h2:l=l'):BB t l j K=BB t' l' j K:=by rw [h1,h2]
@[simp] theorem awv{k:IntKind}{l:List PV}{j:Nat}{K:PV→Prop}:BB (.int k) l j K=gI (mW l j) K:=by simp [BB,TI.agg]
@[simp] theorem asr{l:List PV}{j:Nat}{K:PV→Prop}:BB .bool l j K=gI (mW l j) K:=by simp [BB,TI.agg]
@[simp] theorem aww{l:List PV}{j:Nat}{K:PV→Prop}:BB .str l j K=gI (mW l j) K:=by simp [BB,TI.agg]
@[simp] theorem aqf{e n b:Nat}{z:List PV}{l:List PV}{j:Nat}{K:PV→Prop}:BB (.slice e n b z) l j K=gI (mW l j) K:=by simp [BB,TI.agg]
@[simp] theorem awx{e m n:Nat}{z:List PV}{l:List PV}{j:Nat}{K:PV→Prop}:BB (.arr e m n z) l j K=aK (j+z.length≤l.length) (K (.ag ((l.drop j).take z.length))):=by simp [BB,TI.agg,TI.size,TI.zero]
@[simp] theorem ass{l:List PV}{j:Nat}{K:PV→Prop}:BB .DK l j K=gI (mW l j) K:=by simp [BB,TI.agg]
@[simp] theorem awy{l:List PV}{j:Nat}{K:PV→Prop}:BB .fnT l j K=gI (mW l j) K:=by simp [BB,TI.agg]
@[simp] theorem amN{fs:List (Nat × Nat × Bool)}{z:List PV}{l:List PV}{j:Nat}{K:PV→Prop}:BB (.struct fs z) l j K=aK (j+z.length≤l.length) (K (.ag ((l.drop j).take z.length))):=by simp [BB,TI.agg,TI.size,TI.zero]
def l8(E:Env)(t:TypeId)(rows:Rows)(p:PV)(K:PV→Prop):Prop:=
 aK ((E.ty t).known=true) (match p with
 | .rd l=>BB (E.ty t) l 0 K
 | .ptr id ver i j=>cD (rows id) ver fun r=>HX r.els i fun el=>BB (E.ty t) el j K
 | _=>False)
@[congr] theorem ahy{E:Env}{t:TypeId}{rows:Rows}{p p':PV}{K:PV→Prop}(h:p=p'):l8 E t rows p K=l8 E t rows p' K:=by rw [h]
@[simp] theorem aqg{E:Env}{t:TypeId}{rows:Rows}{l:List PV}{K:PV→Prop}:l8 E t rows (.rd l) K=aK ((E.ty t).known=true) (BB (E.ty t) l 0 K):=rfl
@[simp] theorem amO{E:Env}{t:TypeId}{rows:Rows}{id ver i j:Nat}{K:PV→Prop}:l8 E t rows (.ptr id ver i j) K=aK ((E.ty t).known=true) (cD (rows id) ver fun r=>HX r.els i fun el=>BB (E.ty t) el j K):=rfl
theorem NT{ti:TI}{l:List PV}{j:Nat}{K:PV→Prop}:bA (fun v=>if ti.agg=true then j+ti.size≤l.length∧v = .ag ((l.drop j).take ti.size)else l[j]? = some v) K=BB ti l j K:=by
 simp only [BB,gI]
 split
 ·rw [j7,kU]
 ·rfl
theorem wE{E:Env}{t:TypeId}{rows:Rows}{p:PV}{K:PV→Prop}:bA (fun v=>vD E t rows p v) K=l8 E t rows p K:=by
 simp only [vD,l8]
 rw [j7]
 congr 1
 cases p with
 | rd l=>dsimp only;rw [←NT];simp [go]
 | ptr id ver i j =>
  simp only [cD,HX,←NT]
  apply propext;simp only [bA]
  constructor
  ·rintro⟨v,⟨r,h1,h2,el,h3,h4⟩,h5⟩;exact⟨r,h1,h2,el,h3,v,h4,h5⟩
  ·rintro⟨r,h1,h2,el,h3,v,h4,h5⟩;exact⟨v,⟨r,h1,h2,el,h3,h4⟩,h5⟩
 | _=>simp [bA]
def kV(ti:TI)(i:Nat)(x:PV)(K:PV→Prop):Prop:=
 match ti with
 | .struct fs _=>gI (mW fs i) fun p=>match x with
  | .ag l=>if p.2.2=true then K (.ag ((l.drop p.1).take p.2.1))else gI (mW l p.1) K
  | _=>False
 | _=>False
@[congr] theorem agM{t t':TI}{i:Nat}{x x':PV}{K:PV→Prop}(h:t=t')(h2:x=x'):kV t i x K=kV t' i x' K:=by rw [h,h2]
def KF(p:Nat × Nat × Bool)(l:List PV)(K:PV→Prop):Prop:=if p.2.2=true then K (.ag ((l.drop p.1).take p.2.1))else gI (mW l p.1) K
@[simp] theorem aqh{o n:Nat}{l:List PV}{K:PV→Prop}:KF (o,n,true) l K=go (K (.ag ((l.drop o).take n))):=by show _=K _;simp [KF]
@[simp] theorem amP{o n:Nat}{l:List PV}{K:PV→Prop}:KF (o,n,false) l K=gI (mW l o) K:=by simp [KF]
@[congr] theorem amQ{p p':Nat × Nat × Bool}{l l':List PV}{K:PV→Prop}(h:p=p')(h2:l=l'):KF p l K=KF p' l' K:=by rw [h,h2]
@[simp] theorem amR{fs:List (Nat × Nat × Bool)}{z:List PV}{i:Nat}{l:List PV}{K:PV→Prop}:kV (.struct fs z) i (.ag l) K=gI (mW fs i) fun p=>KF p l K:=rfl
theorem BC{E:Env}{t:TypeId}{i:Nat}{x:PV}{K:PV→Prop}:bA (fun v=>vV E t i x v) K=kV (E.ty t) i x K:=by
 simp only [vV,kV]
 cases E.ty t with
 | struct fs z =>
  simp only [gI]
  apply propext;simp only [bA]
  cases x with
  | ag l =>
   simp only
   constructor
   ·rintro⟨v,⟨o,n,b,h1,h2⟩,h3⟩
    refine⟨_,h1,?_⟩
    simp only
    split at h2
    ·rename_i hb;rw [if_pos hb,←h2];exact h3
    ·rename_i hb;rw [if_neg hb];exact⟨v,h2,h3⟩
   ·rintro⟨⟨o,n,b⟩,h1,h2⟩
    simp only at h2
    split at h2
    ·rename_i hb;exact⟨_,⟨o,n,b,h1,by rw [if_pos hb]⟩,h2⟩
    ·rename_i hb;obtain⟨v,h3,h4⟩:=h2;exact⟨v,⟨o,n,b,h1,by rw [if_neg hb];exact h3⟩,h4⟩
  | _=>simp
 | _=>simp [bA]
def eE(ti:TI)(rows:Rows)(i:Nat)(x:PV)(K:PV→Prop):Prop:=
 match ti with
 | .struct fs _=>gI (mW fs i) fun p=>match x with
  | .rd l=>aK (p.1≤l.length) (K (.rd (l.drop p.1)))
  | .ptr id ver a j=>cD (rows id) ver fun _=>K (.ptr id ver a (j+p.1))
  | _=>False
 | _=>False
@[congr] theorem W9{t t':TI}{rows:Rows}{i:Nat}{x x':PV}{K:PV→Prop}(h:t=t')(h2:x=x'):eE t rows i x K=eE t' rows i x' K:=by rw [h,h2]
@[simp] theorem adm{fs:List (Nat × Nat × Bool)}{z:List PV}{rows:Rows}{i:Nat}{l:List PV}{K:PV→Prop}:eE (.struct fs z) rows i (.rd l) K=gI (mW fs i) fun p=>aK (p.1≤l.length) (K (.rd (l.drop p.1))):=rfl
@[simp] theorem acb{fs:List (Nat × Nat × Bool)}{z:List PV}{rows:Rows}{i id ver a j:Nat}{K:PV→Prop}:eE (.struct fs z) rows i (.ptr id ver a j) K=gI (mW fs i) fun p=>cD (rows id) ver fun _=>K (.ptr id ver a (j+p.1)):=rfl
theorem rW{E:Env}{t:TypeId}{rows:Rows}{i:Nat}{x:PV}{K:PV→Prop}:bA (fun v=>gD E t rows i x v) K=eE (E.ty t) rows i x K:=by
 simp only [gD,eE]
 cases E.ty t with
 | struct fs z =>
  simp only [gI]
  apply propext;simp only [bA]
  cases x with
  | rd l =>
   simp only [aK]
   constructor
   ·rintro⟨v,⟨o,n,b,h1,h2,rfl⟩,h3⟩;exact⟨_,h1,h2,h3⟩
   ·rintro⟨⟨o,n,b⟩,h1,h2,h3⟩;exact⟨_,⟨o,n,b,h1,h2,rfl⟩,h3⟩
  | ptr id ver a j =>
   simp only [cD]
   constructor
   ·rintro⟨v,⟨o,n,b,h1,⟨r,h2,h3⟩,rfl⟩,h4⟩;exact⟨_,h1,r,h2,h3,h4⟩
   ·rintro⟨⟨o,n,b⟩,h1,r,h2,h3,h4⟩;exact⟨_,⟨o,n,b,h1,⟨r,h2,h3⟩,rfl⟩,h4⟩
  | _=>simp
 | _=>simp [bA]
def bT(n:Nat)(l:List (List PV)):Prop:=∀e∈l,e.length=n
@[simp] theorem cY{α:Type}{g:α→List PV}{n:Nat}{l:List α}:(Enc g n)→bT n (emap g l)=True:=by
 intro h
 simp only [bT,emap,List.mem_map,eq_iff_iff,iff_true]
 rintro e ⟨x,_,rfl⟩
 exact h x
@[simp] theorem amS{n:Nat}:bT n []=True:=by simp [bT]
@[simp] theorem akc{n:Nat}{e:List PV}{l:List (List PV)}:bT n (e::l)=(e.length=n∧bT n l):=by simp [bT]
def cZ(ti:TI)(rows:Rows)(x ix:PV)(K:PV→Prop):Prop:=
 match ti,ix with
 | .slice _ n _ _, .int _ k=>aK (0≤k) (match x with
  | .sl l=>aK (bT n l) (HX l k.toNat fun el=>K (.rd el))
  | .kO l=>aK (bT n l) (HX l k.toNat fun el=>K (.rd el))
  | .own id ver off len=>cD (rows id) ver fun r=>aK (r.size=n∧k.toNat<len) (K (.ptr id ver (off+k.toNat) 0))
  | _=>False)
 | .arr _ m n _, .int _ k=>aK (0≤k∧k.toNat<m) (match x with
  | .rd l=>aK (k.toNat*n≤l.length) (K (.rd (l.drop (k.toNat*n))))
  | .ptr id ver a j=>cD (rows id) ver fun _=>K (.ptr id ver a (j+k.toNat*n))
  | _=>False)
 | _,_=>False
@[congr] theorem XA{t t':TI}{rows:Rows}{x x' y y':PV}{K:PV→Prop}(h:t=t')(h2:x=x')(h3:y=y'):cZ t rows x y K=cZ t' rows x' y' K:=by rw [h,h2,h3]
section
variable {α:Type} [Inhabited α] {g:α→List PV} {l:List α} {e n b:Nat} {z:List PV} {rows:Rows} {kk:IntKind} {k:Int} {K:PV→Prop} {els:List (List PV)} {id ver off len:Nat}
@[simp] theorem acd:cZ (.slice e n b z) rows (aG g l) (.int kk k) K=aK (0≤k∧k.toNat<l.length) (aK (bT n (emap g l)) (K (.rd (g (nth l k.toNat))))):=by
 simp only [cZ,aG,NS,aK,and_assoc]
 apply propext
 constructor
 ·rintro⟨h1,h2,h3,h4⟩;exact⟨h1,h3,h2,h4⟩
 ·rintro⟨h1,h2,h3,h4⟩;exact⟨h1,h3,h2,h4⟩
@[simp] theorem adn:cZ (.slice e n b z) rows (.sl els) (.int kk k) K=aK (0≤k) (aK (bT n els) (HX els k.toNat fun el=>K (.rd el))):=rfl
@[simp] theorem ace:cZ (.slice e n b z) rows (.kO els) (.int kk k) K=aK (0≤k) (aK (bT n els) (HX els k.toNat fun el=>K (.rd el))):=rfl
@[simp] theorem acf{m:Nat}{l:List PV}:cZ (.arr e m n z) rows (.rd l) (.int kk k) K=aK (0≤k∧k.toNat<m) (aK (k.toNat*n≤l.length) (K (.rd (l.drop (k.toNat*n))))):=rfl
@[simp] theorem aas{m a j:Nat}:cZ (.arr e m n z) rows (.ptr id ver a j) (.int kk k) K=aK (0≤k∧k.toNat<m) (cD (rows id) ver fun _=>K (.ptr id ver a (j+k.toNat*n))):=rfl
@[simp] theorem acg:cZ (.slice e n b z) rows (.own id ver off len) (.int kk k) K=aK (0≤k) (cD (rows id) ver fun r=>aK (r.size=n∧k.toNat<len) (K (.ptr id ver (off+k.toNat) 0))):=rfl
end
theorem rZ{E:Env}{t:TypeId}{rows:Rows}{x ix:PV}{K:PV→Prop}:bA (fun v=>gE E t rows x ix v) K=cZ (E.ty t) rows x ix K:=by
 simp only [gE,cZ]
 cases E.ty t with
 | slice e n b z =>
  cases ix with
  | int kk k =>
   simp only
   rw [j7]
   congr 1
   cases x with
   | sl l =>
    simp only [aK,HX,bT]
    apply propext;simp only [bA]
    constructor
    ·rintro⟨v,⟨el,h1,h2,rfl⟩,h4⟩;exact⟨h2,el,h1,h4⟩
    ·rintro⟨h2,el,h1,h4⟩;exact⟨_,⟨el,h1,h2,rfl⟩,h4⟩
   | kO l =>
    simp only [aK,HX,bT]
    apply propext;simp only [bA]
    constructor
    ·rintro⟨v,⟨el,h1,h2,rfl⟩,h4⟩;exact⟨h2,el,h1,h4⟩
    ·rintro⟨h2,el,h1,h4⟩;exact⟨_,⟨el,h1,h2,rfl⟩,h4⟩
   | own id ver off len =>
    simp only [aK,cD]
    apply propext;simp only [bA]
    constructor
    ·rintro⟨v,⟨r,h1,h2,h3,h4,rfl⟩,h5⟩;exact⟨r,h1,h2,⟨h3,h4⟩,h5⟩
    ·rintro⟨r,h1,h2,⟨h3,h4⟩,h5⟩;exact⟨_,⟨r,h1,h2,h3,h4,rfl⟩,h5⟩
   | _=>simp [bA]
  | _=>simp [bA]
 | arr e m n z =>
  cases ix with
  | int kk k =>
   simp only
   rw [j7]
   congr 1
   cases x with
   | rd l =>
    simp only
    rw [j7,kU]
   | ptr id ver a j =>
    simp only [cD]
    apply propext;simp only [bA]
    constructor
    ·rintro⟨v,⟨⟨r,h1,h2⟩,rfl⟩,h3⟩;exact⟨r,h1,h2,h3⟩
    ·rintro⟨r,h1,h2,h3⟩;exact⟨_,⟨⟨r,h1,h2⟩,rfl⟩,h3⟩
   | _=>simp [bA]
  | _=>simp [bA]
 | _=>simp [bA]
def BD(d:Nat)(o:Option PV)(K:Nat→Prop):Prop:=
 match o with
 | none=>K d
 | some (.int _ k)=>aK (0≤k) (K k.toNat)
 | some _=>False
@[congr] theorem aqi{d d':Nat}{o o':Option PV}{K:Nat→Prop}(h:d=d')(h2:o=o'):BD d o K=BD d' o' K:=by rw [h,h2]
@[simp] theorem ast{d:Nat}{K:Nat→Prop}:BD d none K=go (K d):=rfl
@[simp] theorem asu{d:Nat}{kk:IntKind}{k:Int}{K:Nat→Prop}:BD d (some (.int kk k)) K=aK (0≤k) (K k.toNat):=rfl
theorem TX{d:Nat}{o:Option PV}{K:Nat→Prop}:BD d o K ↔ ∃n,w9 d o n∧K n:=by
 cases o with
 | none=>simp [BD,w9]
 | some p =>
  cases p with
  | int kk k =>
   simp only [BD,w9,aK]
   constructor
   ·rintro⟨h1,h2⟩;exact⟨_,⟨h1,rfl⟩,h2⟩
   ·rintro⟨n,⟨h1,rfl⟩,h2⟩;exact⟨h1,h2⟩
  | _=>simp [BD,w9]
def aat{α:Type}(mk mkx:List α→PV)(n:Nat)(l:List α)(ok:Prop)(lo hi mx:Option PV)(K:PV→Prop):Prop:=
 BD 0 lo fun a=>BD l.length hi fun b=>aK (a≤b∧b≤l.length) (aK ok (match mx with
  | none=>K (mk ((l.take b).drop a))
  | some m=>BD 0 (some m) fun c=>aK (b=c∧hi.isSome=true) (K (mkx ((l.take b).drop a)))))
def gN(ti:TI)(rows:Rows)(x:PV)(lo hi mx:Option PV)(K:PV→Prop):Prop:=
 match ti with
 | .slice _ n _ _ =>
  match x with
  | .nil=>BD 0 lo fun a=>BD 0 hi fun b=>aK (a=0∧b=0∧mx.isNone=true) (K .nil)
  | .sl l=>aat .sl .kO n l (bT n l) lo hi mx K
  | .kO l=>aat .sl .kO n l (bT n l) lo hi mx K
  | .own id ver off len=>cD (rows id) ver fun r=>aK (r.size=n) (BD 0 lo fun a=>BD len hi fun b=>aK (a≤b∧b≤len∧mx.isNone=true) (K (.own id ver (off+a) (b-a))))
  | _=>False
 | _=>False
@[congr] theorem agN{t t':TI}{rows:Rows}{x x':PV}{lo R7 hi kN mx mx':Option PV}{K:PV→Prop}(h:t=t')(h2:x=x')(h3:lo=R7)(h4:hi=kN)(h5:mx=mx'):gN t rows x lo hi mx K=gN t' rows x' R7 kN mx' K:=by rw [h,h2,h3,h4,h5]
section
variable {α:Type} {g:α→List PV} {l:List α} {e n b:Nat} {z:List PV} {rows:Rows} {lo hi mx:Option PV} {K:PV→Prop} {els:List (List PV)} {id ver off len:Nat}
theorem NU{a b:Nat}:((emap g l).take b).drop a=emap g ((l.take b).drop a):=by simp [emap]
@[simp] theorem akd:gN (.slice e n b z) rows (aG g l) lo hi none K=BD 0 lo fun a=>BD l.length hi fun b=>aK (a≤b∧b≤l.length) (aK (bT n (emap g l)) (K (aG g ((l.take b).drop a)))):=by
 simp only [gN,aG,aat,NU]
 simp [emap]
theorem KG{m:PV}:gN (.slice e n b z) rows (aG g l) lo hi (some m) K=BD 0 lo fun a=>BD l.length hi fun b=>aK (a≤b∧b≤l.length) (aK (bT n (emap g l)) (BD 0 (some m) fun c=>aK (b=c∧hi.isSome=true) (K (.kO (emap g ((l.take b).drop a)))))):=by
 simp only [gN,aG,aat,NU]
 simp [emap]
@[simp] theorem ake:gN (.slice e n b z) rows .nil lo hi mx K=BD 0 lo fun a=>BD 0 hi fun b=>aK (a=0∧b=0∧mx.isNone=true) (K .nil):=rfl
@[simp] theorem akf:gN (.slice e n b z) rows (.own id ver off len) lo hi mx K=cD (rows id) ver fun r=>aK (r.size=n) (BD 0 lo fun a=>BD len hi fun b=>aK (a≤b∧b≤len∧mx.isNone=true) (K (.own id ver (off+a) (b-a)))):=rfl
end
theorem XB{l:List (List PV)}{n:Nat}{lo hi mx:Option PV}{K:PV→Prop}:(∃v,(∃a b,w9 0 lo a∧w9 l.length hi b∧a≤b∧b≤l.length∧(∀e∈l,e.length=n)∧SH l a b hi mx v)∧K v)↔aat .sl .kO n l (bT n l) lo hi mx K:=by
 simp only [aat,TX,aK,bT,SH]
 constructor
 ·rintro⟨v,⟨a,b,h1,h2,h3,h4,h5,h6⟩,h7⟩
  refine⟨a,h1,b,h2,⟨h3,h4⟩,h5,?_⟩
  cases mx with
  | none=>simp only at h6 ⊢;rw [←h6];exact h7
  | some m=>obtain⟨c,q1,q2,q3,rfl⟩:=h6;exact⟨c,q1,⟨q2,q3⟩,h7⟩
 ·rintro⟨a,h1,b,h2,⟨h3,h4⟩,h5,h6⟩
  cases mx with
  | none=>exact⟨_,⟨a,b,h1,h2,h3,h4,h5,rfl⟩,h6⟩
  | some m=>obtain⟨c,q1,⟨q2,q3⟩,h7⟩:=h6;exact⟨_,⟨a,b,h1,h2,h3,h4,h5,c,q1,q2,q3,rfl⟩,h7⟩
theorem BE{E:Env}{t:TypeId}{rows:Rows}{x:PV}{lo hi mx:Option PV}{K:PV→Prop}:bA (fun v=>pE E t rows x lo hi mx v) K=gN (E.ty t) rows x lo hi mx K:=by
 simp only [pE,gN]
 cases E.ty t with
 | slice e n b z =>
  cases x with
  | sl l=>exact propext XB
  | kO l=>exact propext XB
  | nil =>
   simp only [TX,aK]
   apply propext;simp only [bA]
   constructor
   ·rintro⟨v,⟨a,b,h1,h2,h3,h4,h5,rfl⟩,h6⟩;exact⟨a,h1,b,h2,⟨h3,h4,h5⟩,h6⟩
   ·rintro⟨a,h1,b,h2,⟨h3,h4,h5⟩,h6⟩;exact⟨_,⟨a,b,h1,h2,h3,h4,h5,rfl⟩,h6⟩
  | own id ver off len =>
   simp only [TX,aK,cD]
   apply propext;simp only [bA]
   constructor
   ·rintro⟨v,⟨r,q1,q2,q3,a,b,h1,h2,h3,h4,h5,rfl⟩,h6⟩;exact⟨r,q1,q2,q3,a,h1,b,h2,⟨h3,h4,h5⟩,h6⟩
   ·rintro⟨r,q1,q2,q3,a,h1,b,h2,⟨h3,h4,h5⟩,h6⟩;exact⟨_,⟨r,q1,q2,q3,a,b,h1,h2,h3,h4,h5,rfl⟩,h6⟩
  | _=>simp [bA]
 | _=>simp [bA]
def vM(rows:Rows)(x:PV)(K:PV→Prop):Prop:=
 match x with
 | .rd l=>K (.rd l)
 | .ptr id ver i j=>cD (rows id) ver fun _=>K (.ptr id ver i j)
 | _=>False
@[congr] theorem akg{rows:Rows}{x x':PV}{K:PV→Prop}(h:x=x'):vM rows x K=vM rows x' K:=by rw [h]
@[simp] theorem asv{rows:Rows}{l:List PV}{K:PV→Prop}:vM rows (.rd l) K=go (K (.rd l)):=rfl
@[simp] theorem aqj{rows:Rows}{id ver i j:Nat}{K:PV→Prop}:vM rows (.ptr id ver i j) K=cD (rows id) ver fun _=>K (.ptr id ver i j):=rfl
theorem HY{rows:Rows}{x:PV}{K:PV→Prop}:bA (fun v=>GQ rows x v) K=vM rows x K:=by
 simp only [GQ,vM]
 cases x with
 | rd l=>dsimp only;rw [kU]
 | ptr id ver i j =>
  simp only [cD]
  apply propext;simp only [bA]
  constructor
  ·rintro⟨v,⟨⟨r,h1,h2⟩,rfl⟩,h3⟩;exact⟨r,h1,h2,h3⟩
  ·rintro⟨r,h1,h2,h3⟩;exact⟨_,⟨⟨r,h1,h2⟩,rfl⟩,h3⟩
 | _=>simp [bA]
def m9(ti:TI)(rows:Rows)(x:PV)(K:PV→Prop):Prop:=
 match ti with
 | .slice _ _ _ _=>match x with
  | .nil=>K (.int .i64 0)
  | .sl l=>K (.int .i64 l.length)
  | .kO l=>K (.int .i64 l.length)
  | .own id ver _ len=>cD (rows id) ver fun _=>K (.int .i64 len)
  | _=>False
 | _=>False
@[congr] theorem akh{t t':TI}{rows:Rows}{x x':PV}{K:PV→Prop}(h:t=t')(h2:x=x'):m9 t rows x K=m9 t' rows x' K:=by rw [h,h2]
section
variable {α:Type} {g:α→List PV} {l:List α} {e n b:Nat} {z:List PV} {rows:Rows} {K:PV→Prop} {els:List (List PV)} {id ver off len:Nat}
@[simp] theorem aqk:m9 (.slice e n b z) rows (aG g l) K=go (K (.int .i64 l.length)):=by show _=K _;simp [m9,aG,emap]
@[simp] theorem aql:m9 (.slice e n b z) rows .nil K=go (K (.int .i64 0)):=rfl
@[simp] theorem asw:m9 (.slice e n b z) rows (.sl els) K=go (K (.int .i64 els.length)):=rfl
@[simp] theorem aqm:m9 (.slice e n b z) rows (.kO els) K=go (K (.int .i64 els.length)):=rfl
@[simp] theorem aqn:m9 (.slice e n b z) rows (.own id ver off len) K=cD (rows id) ver fun _=>K (.int .i64 len):=rfl
end
theorem HZ{ti:TI}{rows:Rows}{x:PV}{K:PV→Prop}:bA (fun v=>AX ti rows x v) K=m9 ti rows x K:=by
 simp only [AX,m9]
 cases ti with
 | slice e n b z =>
  apply propext;simp only [bA,Z3]
  cases x with
  | own id ver off len =>
   simp only [cD]
   constructor
   ·rintro⟨v,⟨n,⟨⟨r,h1,h2⟩,rfl⟩,rfl⟩,h4⟩;exact⟨r,h1,h2,h4⟩
   ·rintro⟨r,h1,h2,h4⟩;exact⟨_,⟨_,⟨⟨r,h1,h2⟩,rfl⟩,rfl⟩,h4⟩
  | _=>simp
 | _=>simp [bA]
def i5(els:List (List PV))(i j:Nat)(l:List PV):List (List PV):=els.set i (((els[i]?).getD []).take j++l++((els[i]?).getD []).drop (j+l.length))
def vN(els:List (List PV))(i n:Nat):Prop:=∃el,els[i]? = some el∧n≤el.length
def iU(rows:Rows)(l:List PV):Prop:=∀q∈l,jF rows q
@[simp] theorem amT{rows:Rows}:iU rows []=True:=by simp [iU]
@[simp] theorem aki{rows:Rows}{p:PV}{l:List PV}:iU rows (p::l)=(jF rows p∧iU rows l):=by simp [iU]
@[simp] theorem amU{α:Type}[Inhabited α]{g:α→List PV}{l:List α}{i n:Nat}:vN (emap g l) i n=(i<l.length∧n≤(g (nth l i)).length):=by
 exact NS (g:=g) (l:=l) (i:=i) (K:=fun el=>n≤el.length)
def kW(E:Env)(t:TypeId)(rows:Rows)(p x:PV)(K:Nat→Row→Prop):Prop:=
 aK ((E.ty t).known=true) (match p with
 | .ptr id ver i j=>cD (rows id) ver fun r=>gI (cU x) fun l=>aK (vN r.els i (j+l.length)∧iU rows l∧l.length=(E.ty t).size) (K id ⟨ver,r.e,r.size,i5 r.els i j l⟩)
 | _=>False)
@[congr] theorem agO{E:Env}{t:TypeId}{rows:Rows}{p p' x x':PV}{K:Nat→Row→Prop}(h1:p=p')(h2:x=x'):kW E t rows p x K=kW E t rows p' x' K:=by rw [h1,h2]
@[simp] theorem akj{E:Env}{t:TypeId}{rows:Rows}{id ver i j:Nat}{x:PV}{K:Nat→Row→Prop}:kW E t rows (.ptr id ver i j) x K=aK ((E.ty t).known=true) (cD (rows id) ver fun r=>gI (cU x) fun l=>aK (vN r.els i (j+l.length)∧iU rows l∧l.length=(E.ty t).size) (K id ⟨ver,r.e,r.size,i5 r.els i j l⟩)):=rfl
theorem H0{E:Env}{t:TypeId}{rows:Rows}{p x:PV}{K:Nat→Row→Prop}:(∃id r,sX E t rows p x .undef (some (id,r))∧K id r)=kW E t rows p x K:=by
 simp only [sX,kW,aK,cD,gI,vN,iU]
 apply propext
 constructor
 ·rintro⟨id,r,⟨h1,_,h2⟩,h3⟩
  refine⟨h1,?_⟩
  split at h2
  ·obtain⟨r0,q1,q2,el,q3,l,q4,q5,q6,q7,q8⟩:=h2
   simp only [Option.some.injEq,Prod.mk.injEq]at q8
   obtain⟨rfl,rfl⟩:=q8
   refine⟨r0,q1,q2,l,q4,⟨⟨el,q3,q7⟩,q5,q6⟩,?_⟩
   simp only [i5,q3,Option.getD_some]
   rw [q2]at h3
   exact h3
  ·exact h2.elim
 ·rintro⟨h1,h2⟩
  split at h2
  ·obtain⟨r0,q1,q2,l,q4,⟨⟨el,q3,q7⟩,q5,q6⟩,h3⟩:=h2
   simp only [i5,q3,Option.getD_some]at h3
   refine⟨_,_,⟨h1,trivial,r0,q1,q2,el,q3,l,q4,q5,q6,q7,rfl⟩,?_⟩
   rw [←q2]at h3
   exact h3
  ·exact h2.elim
def lS(rows:Rows)(y:PV)(K:List (List PV)→Prop):Prop:=
 match y with
 | .nil=>K []
 | .sl k=>K k
 | .kO k=>K k
 | .own id ver off len=>cD (rows id) ver fun r=>K ((r.els.drop off).take len)
 | _=>False
@[congr] theorem akk{rows:Rows}{y y':PV}{K:List (List PV)→Prop}(h:y=y'):lS rows y K=lS rows y' K:=by rw [h]
@[simp] theorem aqo{rows:Rows}{K:List (List PV)→Prop}:lS rows .nil K=go (K []):=rfl
@[simp] theorem asx{rows:Rows}{l:List (List PV)}{K:List (List PV)→Prop}:lS rows (.sl l) K=go (K l):=rfl
@[simp] theorem aqp{α:Type}{g:α→List PV}{rows:Rows}{l:List α}{K:List (List PV)→Prop}:lS rows (aG g l) K=go (K (emap g l)):=rfl
@[simp] theorem aqq{rows:Rows}{l:List (List PV)}{K:List (List PV)→Prop}:lS rows (.kO l) K=go (K l):=rfl
@[simp] theorem aqr{rows:Rows}{id ver off len:Nat}{K:List (List PV)→Prop}:lS rows (.own id ver off len) K=cD (rows id) ver fun r=>K ((r.els.drop off).take len):=rfl
theorem XC{rows:Rows}{y:PV}{K:List (List PV)→Prop}:(∃l,xJ rows y l∧K l)=lS rows y K:=by
 simp only [xJ,lS]
 apply propext
 cases y with
 | own id ver off len =>
  simp only [cD]
  constructor
  ·rintro⟨l,⟨r,h1,h2,rfl⟩,h3⟩;exact⟨r,h1,h2,h3⟩
  ·rintro⟨r,h1,h2,h3⟩;exact⟨_,⟨r,h1,h2,rfl⟩,h3⟩
 | _=>simp
def s9(t:TI)(rows:Rows)(x y:PV)(clk d:Nat)(K:PV→Rows→Nat→Prop):Prop:=
 match t with
 | .slice e n b _=>lS rows y fun l=>aK (bT n l) (match x with
  | .nil=>aK (l.length≤room∧l.length*b≤room) (K (.own d clk 0 l.length) (eQ rows d (some ⟨clk,e,n,l⟩)) (clk+1))
  | .own id ver off len=>cD (rows id) ver fun r=>aK (off=0∧len=r.els.length∧r.e=e∧r.size=n) (aK (len+l.length≤room∧(len+l.length)*b≤room) (K (.own id clk 0 (len+l.length)) (eQ rows id (some ⟨clk,e,n,r.els++l⟩)) (clk+1)))
  | .kO l0=>aK (bT n l0 ∧ ∀e∈l,∀p∈e,dB p=true) (aK (l0.length+l.length≤room∧(l0.length+l.length)*b≤room) (K (.sl (l0++l)) rows clk))
  | _=>False)
 | _=>False
@[congr] theorem akl{t t':TI}{rows:Rows}{x x' y y':PV}{clk d:Nat}{K:PV→Rows→Nat→Prop}(h1:t=t')(h3:x=x')(h4:y=y') :
  s9 t rows x y clk d K=s9 t' rows x' y' clk d K:=by rw [h1,h3,h4]
section
variable {e n b clk d id ver off len:Nat} {z:List PV} {rows:Rows} {y:PV} {K:PV→Rows→Nat→Prop} {l0:List (List PV)}
@[simp] theorem aqs:s9 (.slice e n b z) rows .nil y clk d K=lS rows y fun l=>aK (bT n l) (aK (l.length≤room∧l.length*b≤room) (K (.own d clk 0 l.length) (eQ rows d (some ⟨clk,e,n,l⟩)) (clk+1))):=rfl
@[simp] theorem aqt:s9 (.slice e n b z) rows (.own id ver off len) y clk d K=lS rows y fun l=>aK (bT n l) (cD (rows id) ver fun r=>aK (off=0∧len=r.els.length∧r.e=e∧r.size=n) (aK (len+l.length≤room∧(len+l.length)*b≤room) (K (.own id clk 0 (len+l.length)) (eQ rows id (some ⟨clk,e,n,r.els++l⟩)) (clk+1)))):=rfl
@[simp] theorem aqu:s9 (.slice e n b z) rows (.kO l0) y clk d K=lS rows y fun l=>aK (bT n l) (aK (bT n l0 ∧ ∀e∈l,∀p∈e,dB p=true) (aK (l0.length+l.length≤room∧(l0.length+l.length)*b≤room) (K (.sl (l0++l)) rows clk))):=rfl
end
theorem ahz{t:TI}{rows:Rows}{x y:PV}{clk d:Nat}{K:PV→Rows→Nat→Prop}:aam t rows x y clk d K=s9 t rows x y clk d K:=by
 unfold aam s9
 cases t with
 | slice e n b z =>
  dsimp only
  rw [←XC]
  congr 1;funext l;congr 1
  simp only [aK,bT]
  congr 1
  cases x with
  | own id ver off len=>simp only [cD,and_assoc]
  | kO l0=>simp only [bT,and_assoc]
  | _=>rfl
 | _=>rfl
def fzR(o:Option Row)(ver off len:Nat):PV:=
 match o with
 | some r=>if r.ver=ver then .sl ((r.els.drop off).take len)else .undef
 | none => .undef
@[simp] theorem ayv{rows:Rows}{id ver off len:Nat}:fz rows (.own id ver off len)=fzR (rows id) ver off len:=rfl
@[simp] theorem asy{α:Type}{g:α→List PV}{l:List α}{ver e n off len:Nat}:fzR (some ⟨ver,e,n,emap g l⟩) ver off len=aG g ((l.drop off).take len):=by simp [fzR,aG,emap]
@[simp] theorem ayw{rows:Rows}:fz rows .nil = .sl []:=rfl
@[simp] theorem ayx{rows:Rows}{l:List (List PV)}:fz rows (.kO l) = .sl l:=rfl
@[simp] theorem aBI{rows:Rows}{l:List (List PV)}:fz rows (.sl l) = .sl l:=rfl
@[simp] theorem ayy{α:Type}{g:α→List PV}{rows:Rows}{l:List α}:fz rows (aG g l)=aG g l:=rfl
@[simp] theorem ayz{rows:Rows}{k:IntKind}{n:Int}:fz rows (.int k n) = .int k n:=rfl
@[simp] theorem awz{rows:Rows}{b:Bool}:fz rows (.bool b) = .bool b:=rfl
@[simp] theorem aBJ{rows:Rows}{f:FuncId}{l:List PV}:fz rows (.fn f l) = .fn f l:=rfl
@[simp] theorem ayA{rows:Rows}{id ver off len:Nat}:pz rows (.own id ver off len)=fzR (rows id) ver off len:=rfl
@[simp] theorem ayB{rows:Rows}:pz rows .nil = .sl []:=rfl
@[simp] theorem ayC{rows:Rows}{l:List (List PV)}:pz rows (.kO l) = .sl l:=rfl
@[simp] theorem aBK{rows:Rows}{l:List (List PV)}:pz rows (.sl l) = .sl l:=rfl
@[simp] theorem ayD{α:Type}{g:α→List PV}{rows:Rows}{l:List α}:pz rows (aG g l)=aG g l:=rfl
@[simp] theorem ayE{rows:Rows}{k:IntKind}{n:Int}:pz rows (.int k n) = .int k n:=rfl
@[simp] theorem awA{rows:Rows}{b:Bool}:pz rows (.bool b) = .bool b:=rfl
@[simp] theorem aBL{rows:Rows}{f:FuncId}{l:List PV}:pz rows (.fn f l) = .fn f l:=rfl
@[simp] theorem aBM{rows:Rows}{l:List PV}:pz rows (.ag l) = .ag (l.map (fz rows)):=rfl
@[simp] theorem asz{α:Type}{g:α→List PV}{l:List α}:gX (aG g l)=true:=rfl
@[simp] theorem aqw{α:Type}{g:α→List PV}{l:List α}:dB (aG g l)=true:=rfl
@[simp] theorem awB{α:Type}{g:α→List PV}{l:List α}:bM (aG g l) = []:=rfl
@[simp] theorem asA{α:Type}{g:α→List PV}{l:List α}:eI (aG g l) = []:=rfl
@[simp] theorem awC{l:List (List PV)}:eI (.sl l) = []:=rfl
@[simp] theorem asB{l:List (List PV)}:eI (.kO l) = []:=rfl
@[simp] theorem asC{k:IntKind}{n:Int}:eI (.int k n) = []:=rfl
@[simp] theorem aqx{b:Bool}:eI (.bool b) = []:=rfl
@[simp] theorem awD{f:FuncId}{l:List PV}:eI (.fn f l) = []:=rfl
@[simp] theorem asD:eI .nil = []:=rfl
@[simp] theorem asE{id ver off len:Nat}:eI (.own id ver off len) = [id]:=rfl
@[simp] theorem awE{l:List PV}:eI (.ag l)=l.flatMap bM:=rfl
@[simp] theorem asF{α:Type}{g:α→List PV}{rows:Rows}{l:List α}:jF rows (aG g l)=True:=rfl
@[simp] theorem amV{α:Type}{g:α→List PV}{l:List α}:cU (aG g l)=some [aG g l]:=rfl
@[simp] theorem amW{α:Type}{g:α→List PV}{l:List α}:fT (aG g l)=some [aG g l]:=rfl
def dG(o:Option Row):Prop:=∀r,o=some r → ∀e∈r.els,∀p∈e,dB p=true
@[simp] theorem ahA{rows:Rows}:fB rows []=True:=by simp [fB]
@[simp] theorem agP{rows:Rows}{id:Nat}{ids:List Nat}:fB rows (id::ids)=(dG (rows id)∧fB rows ids):=by simp [fB,dG]
@[simp] theorem ahB:dG none=True:=by simp [dG]
@[simp] theorem cN{α:Type}{g:α→List PV}{l:List α}{ver e n:Nat}(h:aso g):dG (some ⟨ver,e,n,emap g l⟩)=True:=by
 simp only [dG,emap,Option.some.injEq,eq_iff_iff,iff_true]
 rintro r rfl e he p hp
 simp at he
 obtain⟨x,_,rfl⟩:=he
 exact List.all_eq_true.1 (h x) p hp
@[simp] theorem awF{rows:Rows}:HQ rows []=rows:=by funext j;simp [HQ]
@[simp] theorem ayF{rows:Rows}{ids:List Nat}{j:Nat}:HQ rows ids j=if j∈ids then none else rows j:=rfl
def n5(fs:List (Nat × Nat × Bool)):List (Nat × PV)→List PV→(List PV→Prop)→Prop
 | [],z,K=>K z
 | (i,p)::ps,z,K=>gI (mW fs i) fun q=>gI (fT p) fun l=>aK (l.length=q.2.1∧q.1+q.2.1≤z.length) (n5 fs ps (z.take q.1++l++z.drop (q.1+q.2.1)) K)
@[congr] theorem akm{fs:List (Nat × Nat × Bool)}{ps XD:List (Nat × PV)}{z z':List PV}{K:List PV→Prop}(h:ps=XD)(h2:z=z'):n5 fs ps z K=n5 fs XD z' K:=by rw [h,h2]
@[simp] theorem aqy{fs:List (Nat × Nat × Bool)}{z:List PV}{K:List PV→Prop}:n5 fs [] z K=go (K z):=rfl
@[simp] theorem amX{fs:List (Nat × Nat × Bool)}{i:Nat}{p:PV}{ps:List (Nat × PV)}{z:List PV}{K:List PV→Prop}:n5 fs ((i,p)::ps) z K=gI (mW fs i) fun q=>gI (fT p) fun l=>aK (l.length=q.2.1∧q.1+q.2.1≤z.length) (n5 fs ps (z.take q.1++l++z.drop (q.1+q.2.1)) K):=rfl
theorem EF{fs:List (Nat × Nat × Bool)}:∀ {ps:List (Nat × PV)} {z:List PV} {K:List PV→Prop},(∃l,vE fs ps z=some l∧K l)↔n5 fs ps z K
 | [],z,K=>by simp [vE,n5]
 | (i,p)::ps,z,K=>by
  simp only [vE,n5,gI,aK,mW]
  cases h1:fs[i]? with
  | none=>simp
  | some q =>
   obtain⟨o,n,b⟩:=q
   cases h2:fT p with
   | none=>simp
   | some l =>
    simp only [Option.some.injEq,exists_eq_left']
    rw [←EF]
    split
    ·rename_i h;simp [h]
    ·rename_i h;simp [h]
def mI(ti:TI)(ps:List (Nat × PV))(K:PV→Prop):Prop:=
 match ti with
 | .struct fs z=>n5 fs ps z fun l=>K (.ag l)
 | .arr _ k n z=>n5 (SJ k n) ps z fun l=>K (.ag l)
 | _=>False
@[congr] theorem agQ{t t':TI}{ps XD:List (Nat × PV)}{K:PV→Prop}(h:t=t')(h2:ps=XD):mI t ps K=mI t' XD K:=by rw [h,h2]
@[simp] theorem ado{fs:List (Nat × Nat × Bool)}{z:List PV}{ps:List (Nat × PV)}{K:PV→Prop}:mI (.struct fs z) ps K=n5 fs ps z fun l=>K (.ag l):=rfl
@[simp] theorem akn{e k n:Nat}{z:List PV}{ps:List (Nat × PV)}{K:PV→Prop}:mI (.arr e k n z) ps K=n5 (SJ k n) ps z fun l=>K (.ag l):=rfl
@[simp] theorem aqz{k n i:Nat}:mW (SJ k n) i=if i<k then some (i*n,n,false)else none:=by
 unfold mW SJ
 rw [List.getElem?_map]
 split
 ·rename_i h;rw [List.getElem?_range h];rfl
 ·rename_i h;rw [List.getElem?_eq_none (by simpa using h)];rfl
theorem BF{ti:TI}{ps:List (Nat × PV)}{K:PV→Prop}:bA (fun v=>sS ti ps v) K=mI ti ps K:=by
 simp only [sS,mI]
 cases ti with
 | struct fs z =>
  apply propext;simp only [bA]
  rw [←EF]
  constructor
  ·rintro⟨v,⟨l,h1,rfl⟩,h2⟩;exact⟨l,h1,h2⟩
  ·rintro⟨l,h1,h2⟩;exact⟨_,⟨l,h1,rfl⟩,h2⟩
 | arr e k n z =>
  apply propext;simp only [bA]
  rw [←EF]
  constructor
  ·rintro⟨v,⟨l,h1,rfl⟩,h2⟩;exact⟨l,h1,h2⟩
  ·rintro⟨l,h1,h2⟩;exact⟨_,⟨l,h1,rfl⟩,h2⟩
 | _=>simp [bA]
def jU(n:Nat):Nat→List (Nat × PV)→(List (List PV)→Prop)→Prop
 | _,[],K=>K []
 | k,(i,p)::ps,K=>gI (cU p) fun l=>aK (i=k∧l.length=n) (jU n (k+1) ps fun els=>K (l::els))
@[congr] theorem ahC{n k:Nat}{ps XD:List (Nat × PV)}{K:List (List PV)→Prop}(h:ps=XD):jU n k ps K=jU n k XD K:=by rw [h]
@[simp] theorem amY{n k:Nat}{K:List (List PV)→Prop}:jU n k [] K=go (K []):=rfl
@[simp] theorem ako{n k i:Nat}{p:PV}{ps:List (Nat × PV)}{K:List (List PV)→Prop}:jU n k ((i,p)::ps) K=gI (cU p) fun l=>aK (i=k∧l.length=n) (jU n (k+1) ps fun els=>K (l::els)):=rfl
theorem zS{n:Nat}:∀ {ps:List (Nat × PV)} {k:Nat} {K:List (List PV)→Prop},(∃l,iS n k ps=some l∧K l)↔jU n k ps K
 | [],k,K=>by simp [iS,jU]
 | (i,p)::ps,k,K=>by
  simp only [iS,jU,gI,aK]
  cases h2:cU p with
  | none=>simp
  | some l =>
   simp only [Option.some.injEq,exists_eq_left']
   rw [←zS]
   by_cases h:i=k∧l.length=n
   ·rw [if_pos h]
    constructor
    ·rintro⟨e,h1,h3⟩
     obtain⟨e',h4,rfl⟩:=Option.map_eq_some_iff.1 h1
     exact⟨h,e',h4,h3⟩
    ·rintro⟨_,e',h4,h3⟩
     exact⟨_,by rw [h4];rfl,h3⟩
   ·rw [if_neg h];simp [h]
def EG(rows:Rows)(els:List (List PV)):Prop:=(∀e∈els,∀p∈e,dB (fz rows p)=true∧jF rows p)∧(∀e∈els,∀p∈e,bM p = [])
@[simp] theorem aqA{rows:Rows}:EG rows []=True:=by simp [EG]
@[simp] theorem amZ{rows:Rows}{e:List PV}{els:List (List PV)}:EG rows (e::els)=((∀p∈e,dB (fz rows p)=true∧jF rows p∧bM p = [])∧EG rows els):=by
 simp only [EG,List.mem_cons,forall_eq_or_imp,eq_iff_iff]
 constructor
 ·rintro⟨⟨h1,h2⟩,h3,h4⟩;exact⟨fun p hp=>⟨(h1 p hp).1,(h1 p hp).2,h3 p hp⟩,h2,h4⟩
 ·rintro⟨h1,h2,h4⟩;exact⟨⟨fun p hp=>⟨(h1 p hp).1,(h1 p hp).2.1⟩,h2⟩,fun p hp=>(h1 p hp).2.2,h4⟩
def xP(ti:TI)(rows:Rows)(len:Nat)(ps:List (Nat × PV))(K:PV→Prop):Prop:=
 match ti with
 | .slice _ n _ _=>jU n 0 ps fun els=>aK (len=els.length∧len≤4096∧n≤4096∧EG rows els) (K (.kO (els.map fun e=>e.map (fz rows))))
 | _=>False
@[congr] theorem akp{t t':TI}{rows:Rows}{len:Nat}{ps XD:List (Nat × PV)}{K:PV→Prop}(h:t=t')(h2:ps=XD):xP t rows len ps K=xP t' rows len XD K:=by rw [h,h2]
@[simp] theorem akq{e n b:Nat}{z:List PV}{rows:Rows}{len:Nat}{ps:List (Nat × PV)}{K:PV→Prop}:xP (.slice e n b z) rows len ps K=jU n 0 ps fun els=>aK (len=els.length∧len≤4096∧n≤4096∧EG rows els) (K (.kO (els.map fun e=>e.map (fz rows)))):=rfl
theorem H3{ti:TI}{rows:Rows}{len:Nat}{ps:List (Nat × PV)}{K:PV→Prop}:bA (fun v=>SZ ti rows len ps v) K=xP ti rows len ps K:=by
 simp only [SZ,xP]
 cases ti with
 | slice e n b z =>
  apply propext;simp only [bA]
  rw [←zS]
  constructor
  ·rintro⟨v,⟨l,h1,h2,h3,h4,h5,h6,rfl⟩,h7⟩;exact⟨l,h1,⟨h2,h3,h4,h5,h6⟩,h7⟩
  ·rintro⟨l,h1,⟨h2,h3,h4,h5,h6⟩,h7⟩;exact⟨_,⟨l,h1,h2,h3,h4,h5,h6,rfl⟩,h7⟩
 | _=>simp [bA]
def xQ(i:Nat)(x:PV)(K:PV→Prop):Prop:=
 match x with
 | .fE l=>gI (mW l i) K
 | _=>False
@[congr] theorem akr{i:Nat}{x x':PV}{K:PV→Prop}(h:x=x'):xQ i x K=xQ i x' K:=by rw [h]
@[simp] theorem aqB{i:Nat}{l:List PV}{K:PV→Prop}:xQ i (.fE l) K=gI (mW l i) K:=rfl
theorem H4{i:Nat}{x:PV}{K:PV→Prop}:bA (fun v=>SI i x v) K=xQ i x K:=by
 simp only [SI,xQ]
 cases x<;>first | rfl | simp [bA]
def G3:List Oper→Nat→Option Tmp
 | [],_=>none
 | o::_,0=>o.dst
 | _::os,n+1=>G3 os n
theorem KH:∀(ops:List Oper) (j:Nat),G3 ops j=(ops[j]?).bind (·.dst)
 | [],j=>by simp [G3]
 | o::os,0=>by simp [G3]
 | o::os,n+1=>by simp [G3,KH os n]
@[simp] theorem aqC{d:Option Tmp}{op:Op}{ty:TypeId}{pos:String}{af:Array Edge}{g:Option (Nat × Bool)}{os:List Oper}:G3 (⟨d,op,ty,pos,af,g⟩::os) 0=d:=rfl
@[simp] theorem aqD{o:Oper}{os:List Oper}{n:Nat}:G3 (o::os) (n+1)=G3 os n:=rfl
def qQ(o:Option Tmp)(f:Nat→PV)(w:Bool)(A B:Prop):Prop:=
 match o with
 | none=>False
 | some e=>stepG (f e) w A B
@[congr] theorem ahD{o o':Option Tmp}{f:Nat→PV}{w:Bool}{A B:Prop}(h:o=o'):qQ o f w A B=qQ o' f w A B:=by rw [h]
@[simp] theorem aks{e:Tmp}{f:Nat→PV}{w:Bool}{A B:Prop}:qQ (some e) f w A B=stepG (f e) w A B:=rfl
@[simp] theorem aqE{o:Option Tmp}{f:Nat→PV}{w:Bool}{A B:Prop}:go (qQ o f w A B)=qQ o f w A B:=rfl
section
variable {E:Env} {ops os:List Oper} {K:PS→Prop} {f:Nat→PV} {rows:Rows} {clk:Nat} {d:Option Tmp} {ty:TypeId} {pos:String} {af:Array Edge} {k:Nat} {cI:Nat→Nat→Prop} {aU:Nat→Nat→Prop}
theorem NV{op:Op}{j:Nat}{want:Bool}:aQ E ops (⟨d,op,ty,pos,af,some (j,want)⟩::os) K ⟨f,rows,clk⟩=qQ ((ops[j]?).bind (·.dst)) f want (aQ E ops (⟨d,op,ty,pos,af,none⟩::os) K ⟨f,rows,clk⟩) (aQ E ops os K ⟨put f d (.fE []),rows,clk⟩):=TH
theorem NW{op:Op}{j:Nat}{want:Bool}:aT E ops clk k (⟨d,op,ty,pos,af,some (j,want)⟩::os) K ⟨f,rows,cI,aU⟩=qQ ((ops[j]?).bind (·.dst)) f want (aT E ops clk k (⟨d,op,ty,pos,af,none⟩::os) K ⟨f,rows,cI,aU⟩) (aT E ops clk (k+1) os K ⟨put f d (.fE []),rows,cI,aU⟩):=TQ
end
section
variable {E:Env} {ops os:List Oper} {K:PS→Prop} {f:Nat→PV} {rows:Rows} {clk:Nat} {d:Option Tmp} {ty:TypeId} {pos:String} {af:Array Edge} {k:Nat} {cI:Nat→Nat→Prop} {aU:Nat→Nat→Prop}
theorem TY{t:TypeId}{x:Operand}:aQ E ops (⟨d, .load t x,ty,pos,af,none⟩::os) K ⟨f,rows,clk⟩=l8 E t rows (aX f x) fun v=>aQ E ops os K ⟨put f d v,rows,clk⟩:=by rw [aal,wE]
theorem NX{t:TypeId}{i:Nat}{x:Operand}:aQ E ops (⟨d, .field t x i,ty,pos,af,none⟩::os) K ⟨f,rows,clk⟩=kV (E.ty t) i (aX f x) fun v=>aQ E ops os K ⟨put f d v,rows,clk⟩:=by rw [TJ,BC]
theorem CF{t:TypeId}{i:Nat}{x:Operand}:aQ E ops (⟨d, .fieldAddr t x i,ty,pos,af,none⟩::os) K ⟨f,rows,clk⟩=eE (E.ty t) rows i (aX f x) fun v=>aQ E ops os K ⟨put f d v,rows,clk⟩:=by rw [D8,rW]
theorem CG{t:TypeId}{x y:Operand}:aQ E ops (⟨d, .indexAddr t x y,ty,pos,af,none⟩::os) K ⟨f,rows,clk⟩=cZ (E.ty t) rows (aX f x) (aX f y) fun v=>aQ E ops os K ⟨put f d v,rows,clk⟩:=by rw [D9,rZ]
theorem NY{t:TypeId}{x:Operand}{lo hi mx:Option Operand}:aQ E ops (⟨d, .slice t x lo hi mx,ty,pos,af,none⟩::os) K ⟨f,rows,clk⟩=gN (E.ty t) rows (aX f x) (lo.map (aX f)) (hi.map (aX f)) (mx.map (aX f)) fun v=>aQ E ops os K ⟨put f d v,rows,clk⟩:=by rw [TL,BE]
theorem aau{t:TypeId}{x:Operand}:aQ E ops (⟨d, .call { callee:=.builtin .len,args:=⟨[x]⟩,argTypes:=⟨[t]⟩ },ty,pos,af,none⟩::os) K ⟨f,rows,clk⟩=m9 (E.ty t) rows (aX f x) fun v=>aQ E ops os K ⟨put f d v,rows,clk⟩:=by rw [ada,HZ]
theorem NZ{t:TypeId}{p x:Operand}:aQ E ops (⟨none, .store t p x,ty,pos,af,none⟩::os) K ⟨f,rows,clk⟩=kW E t rows (aX f p) (aX f x) fun id r=>aQ E ops os K ⟨f,eQ rows id (some r),clk⟩:=by rw [TO,H0]
theorem KI{t t2:TypeId}{x y:Operand}:aQ E ops (⟨d, .call { callee:=.builtin .append,args:=⟨[x,y]⟩,argTypes:=⟨[t,t2]⟩ },ty,pos,af,none⟩::os) K ⟨f,rows,clk⟩ =
  aK (t2=t∨slT (E.ty t2)=true) (s9 (E.ty t) rows (aX f x) (aX f y) clk (d.getD 0) fun v rows clk=>aQ E ops os K ⟨put f d v,rows,clk⟩):=by rw [NO,ahz]
theorem TZ{t:TypeId}{x:Operand}:aT E ops clk k (⟨d, .load t x,ty,pos,af,none⟩::os) K ⟨f,rows,cI,aU⟩=l8 E t (fC .any ops k aU rows) (aX f x) fun v=>aT E ops clk (k+1) os K ⟨put f d v,rows,mN k (bM (aX f x)) cI,aU⟩:=by rw [aar,wE]
theorem N4{t:TypeId}{i:Nat}{x:Operand}:aT E ops clk k (⟨d, .field t x i,ty,pos,af,none⟩::os) K ⟨f,rows,cI,aU⟩=kV (E.ty t) i (aX f x) fun v=>aT E ops clk (k+1) os K ⟨put f d v,rows,cI,aU⟩:=by rw [TR,BC]
theorem CI{t:TypeId}{i:Nat}{x:Operand}:aT E ops clk k (⟨d, .fieldAddr t x i,ty,pos,af,none⟩::os) K ⟨f,rows,cI,aU⟩=eE (E.ty t) (fC .any ops k aU rows) i (aX f x) fun v=>aT E ops clk (k+1) os K ⟨put f d v,rows,mN k (bM (aX f x)) cI,aU⟩:=by rw [EC,rW]
theorem CJ{t:TypeId}{x y:Operand}:aT E ops clk k (⟨d, .indexAddr t x y,ty,pos,af,none⟩::os) K ⟨f,rows,cI,aU⟩=cZ (E.ty t) (fC .any ops k aU rows) (aX f x) (aX f y) fun v=>aT E ops clk (k+1) os K ⟨put f d v,rows,mN k (bM (aX f x)) cI,aU⟩:=by rw [ED,rZ]
theorem N5{t:TypeId}{x:Operand}{lo hi mx:Option Operand}:aT E ops clk k (⟨d, .slice t x lo hi mx,ty,pos,af,none⟩::os) K ⟨f,rows,cI,aU⟩=gN (E.ty t) (fC .any ops k aU rows) (aX f x) (lo.map (aX f)) (hi.map (aX f)) (mx.map (aX f)) fun v=>aT E ops clk (k+1) os K ⟨put f d v,rows,mN k (bM (aX f x)) cI,aU⟩:=by rw [TS,BE]
theorem aav{t:TypeId}{x:Operand}:aT E ops clk k (⟨d, .call { callee:=.builtin .len,args:=⟨[x]⟩,argTypes:=⟨[t]⟩ },ty,pos,af,none⟩::os) K ⟨f,rows,cI,aU⟩=m9 (E.ty t) (fC .any ops k aU rows) (aX f x) fun v=>aT E ops clk (k+1) os K ⟨put f d v,rows,mN k (bM (aX f x)) cI,aU⟩:=by rw [adh,HZ]
theorem N6{t:TypeId}{p x:Operand}:aT E ops clk k (⟨none, .store t p x,ty,pos,af,none⟩::os) K ⟨f,rows,cI,aU⟩ =
  kW E t (fC .any ops k aU rows) (aX f p) (aX f x) fun id r=>aK (DZ .any ops k id cI) (aT E ops clk (k+1) os K ⟨f,eQ rows id (some r),mN k (bM (aX f p)++((cU (aX f x)).getD []).flatMap bM) cI,qO k id aU⟩):=by rw [TU,←H0];rfl
theorem XE{x:Operand}:go (aQ E ops (⟨d, .move x,ty,pos,af,none⟩::os) K ⟨f,rows,clk⟩)=go (aQ E ops os K ⟨put f d (aX f x),rows,clk⟩):=aai
theorem H5{x:Operand}:go (aQ E ops (⟨d, .assign x,ty,pos,af,none⟩::os) K ⟨f,rows,clk⟩)=go (aQ E ops os K ⟨put f d (aX f x),rows,clk⟩):=NN
theorem ahE{c a b:Operand}:go (aQ E ops (⟨d, .pick c a b,ty,pos,af,none⟩::os) K ⟨f,rows,clk⟩)=i3 (aX f c) true (aQ E ops os K ⟨put f d (aX f a),rows,clk⟩) (aQ E ops os K ⟨put f d (aX f b),rows,clk⟩):=aaj
theorem adp{op:BinOp}{t t2:TypeId}{x y:Operand}:go (aQ E ops (⟨d, .binOp op t x y t2,ty,pos,af,none⟩::os) K ⟨f,rows,clk⟩)=bA (fun v=>JR E op t (aX f x) (aX f y) v) fun v=>aQ E ops os K ⟨put f d v,rows,clk⟩:=ac9
theorem asG{op:UnOp}{t:TypeId}{x:Operand}:go (aQ E ops (⟨d, .unOp op t x,ty,pos,af,none⟩::os) K ⟨f,rows,clk⟩)=bA (fun v=>yun op (aX f x) v) fun v=>aQ E ops os K ⟨put f d v,rows,clk⟩:=ahr
theorem KJ{s t:TypeId}{x:Operand}:go (aQ E ops (⟨d, .convert s t x,ty,pos,af,none⟩::os) K ⟨f,rows,clk⟩)=bA (fun v=>vF (E.ty s) (E.ty t) (aX f x) v) fun v=>aQ E ops os K ⟨put f d v,rows,clk⟩:=aak
theorem T0{i:Nat}{x:Operand}:go (aQ E ops (⟨d, .extract x i,ty,pos,af,none⟩::os) K ⟨f,rows,clk⟩)=xQ i (aX f x) fun v=>aQ E ops os K ⟨put f d v,rows,clk⟩:=by
 show aQ E ops (⟨d, .extract x i,ty,pos,af,none⟩::os) K ⟨f,rows,clk⟩=_
 rw [KC,H4]
theorem ahF{t:TypeId}{x:Operand}:go (aQ E ops (⟨d, .load t x,ty,pos,af,none⟩::os) K ⟨f,rows,clk⟩)=l8 E t rows (aX f x) fun v=>aQ E ops os K ⟨put f d v,rows,clk⟩:=TY
theorem adq{t:TypeId}{i:Nat}{x:Operand}:go (aQ E ops (⟨d, .field t x i,ty,pos,af,none⟩::os) K ⟨f,rows,clk⟩)=kV (E.ty t) i (aX f x) fun v=>aQ E ops os K ⟨put f d v,rows,clk⟩:=NX
theorem KK{t:TypeId}{i:Nat}{x:Operand}:go (aQ E ops (⟨d, .fieldAddr t x i,ty,pos,af,none⟩::os) K ⟨f,rows,clk⟩)=eE (E.ty t) rows i (aX f x) fun v=>aQ E ops os K ⟨put f d v,rows,clk⟩:=CF
theorem KL{t:TypeId}{x y:Operand}:go (aQ E ops (⟨d, .indexAddr t x y,ty,pos,af,none⟩::os) K ⟨f,rows,clk⟩)=cZ (E.ty t) rows (aX f x) (aX f y) fun v=>aQ E ops os K ⟨put f d v,rows,clk⟩:=CG
theorem adr{t:TypeId}{x:Operand}{lo hi mx:Option Operand}:go (aQ E ops (⟨d, .slice t x lo hi mx,ty,pos,af,none⟩::os) K ⟨f,rows,clk⟩)=gN (E.ty t) rows (aX f x) (lo.map (aX f)) (hi.map (aX f)) (mx.map (aX f)) fun v=>aQ E ops os K ⟨put f d v,rows,clk⟩:=NY
theorem ads{t:TypeId}{parts:Array (Nat × Operand)}:go (aQ E ops (⟨d, .build t parts,ty,pos,af,none⟩::os) K ⟨f,rows,clk⟩)=mI (E.ty t) (parts.toList.map fun x=>(x.1,aX f x.2)) fun v=>aQ E ops os K ⟨put f d v,rows,clk⟩:=by
 show aQ E ops (⟨d, .build t parts,ty,pos,af,none⟩::os) K ⟨f,rows,clk⟩=_
 rw [TM,BF]
theorem N7{t:TypeId}{x y:Operand}:go (aQ E ops (⟨d, .index t x y,ty,pos,af,none⟩::os) K ⟨f,rows,clk⟩)=bA (fun v=>vW (E.ty t) (aX f x) (aX f y) v) fun v=>aQ E ops os K ⟨put f d v,rows,clk⟩:=TN
theorem N8{x:Operand}:go (aQ E ops (⟨d, .nilCheck x,ty,pos,af,none⟩::os) K ⟨f,rows,clk⟩)=vM rows (aX f x) fun v=>aQ E ops os K ⟨put f d v,rows,clk⟩:=by show aQ E ops _ K _=_;rw [GZ,HY]
theorem am0{t:TypeId}{x:Operand}:go (aQ E ops (⟨d, .call { callee:=.builtin .len,args:=⟨[x]⟩,argTypes:=⟨[t]⟩ },ty,pos,af,none⟩::os) K ⟨f,rows,clk⟩)=m9 (E.ty t) rows (aX f x) fun v=>aQ E ops os K ⟨put f d v,rows,clk⟩:=aau
theorem am1{ts:Array TypeId}{x y:Operand}:go (aQ E ops (⟨d, .call { callee:=.builtin .max,args:=⟨[x,y]⟩,argTypes:=ts },ty,pos,af,none⟩::os) K ⟨f,rows,clk⟩)=bA (fun v=>SK (aX f x) (aX f y) v) fun v=>aQ E ops os K ⟨put f d v,rows,clk⟩:=adb
theorem am2{ts:Array TypeId}{x y:Operand}:go (aQ E ops (⟨d, .call { callee:=.builtin .min,args:=⟨[x,y]⟩,argTypes:=ts },ty,pos,af,none⟩::os) K ⟨f,rows,clk⟩)=bA (fun v=>SL (aX f x) (aX f y) v) fun v=>aQ E ops os K ⟨put f d v,rows,clk⟩:=ade
theorem G4{t:TypeId}{len:Nat}{parts:Array (Nat × Operand)}:go (aQ E ops (⟨d, .buildSlice t len parts,ty,pos,af,none⟩::os) K ⟨f,rows,clk⟩)=xP (E.ty t) rows len (parts.toList.map fun x=>(x.1,aX f x.2)) fun v=>aQ E ops os K ⟨put f d v,rows,clk⟩:=by
 show aQ E ops (⟨d, .buildSlice t len parts,ty,pos,af,none⟩::os) K ⟨f,rows,clk⟩=_
 rw [CD,H3]
theorem adt{t:TypeId}{p x:Operand}:go (aQ E ops (⟨none, .store t p x,ty,pos,af,none⟩::os) K ⟨f,rows,clk⟩)=kW E t rows (aX f p) (aX f x) fun id r=>aQ E ops os K ⟨f,eQ rows id (some r),clk⟩:=NZ
theorem adu{t:TypeId}:go (aQ E ops (⟨d, .alloc t,ty,pos,af,none⟩::os) K ⟨f,rows,clk⟩)=aK ((E.ty t).known=true) (aQ E ops os K ⟨put f d (.ptr (d.getD 0) clk 0 0),eQ rows (d.getD 0) (some ⟨clk,t,(E.ty t).size,[(E.ty t).zero]⟩),clk+1⟩):=TP
theorem am3{t:TypeId}{x:Operand}:go (aQ E ops (⟨d, .box t x,ty,pos,af,none⟩::os) K ⟨f,rows,clk⟩)=aK ((E.ty t).known=true) (gI (cU (aX f x)) fun l=>aK (iU rows l∧l.length=(E.ty t).size) (aQ E ops os K ⟨put f d (.ptr (d.getD 0) clk 0 0),eQ rows (d.getD 0) (some ⟨clk,t,(E.ty t).size,[l]⟩),clk+1⟩)):=by
 show aQ E ops (⟨d, .box t x,ty,pos,af,none⟩::os) K ⟨f,rows,clk⟩=_
 rw [adf]
 simp only [aK,gI,iU,and_assoc]
theorem KM{t:TypeId}{l c:Operand}:go (aQ E ops (⟨d, .makeSlice t l c,ty,pos,af,none⟩::os) K ⟨f,rows,clk⟩)=s7 (E.ty t) (aX f l) (aX f c) fun e n z x=>aQ E ops os K ⟨put f d (.own (d.getD 0) clk 0 x.toNat),eQ rows (d.getD 0) (some ⟨clk,e,n,List.replicate x.toNat z⟩),clk+1⟩:=EA
theorem aaw{t t2:TypeId}{x y:Operand}:go (aQ E ops (⟨d, .call { callee:=.builtin .append,args:=⟨[x,y]⟩,argTypes:=⟨[t,t2]⟩ },ty,pos,af,none⟩::os) K ⟨f,rows,clk⟩)=aK (t2=t∨slT (E.ty t2)=true) (s9 (E.ty t) rows (aX f x) (aX f y) clk (d.getD 0) fun v rows clk=>aQ E ops os K ⟨put f d v,rows,clk⟩):=KI
theorem ahG{fo:Operand}{args:Array Operand}{ts:Array TypeId}:go (aQ E ops (⟨d, .call { callee:=.value fo,args:=args,argTypes:=ts },ty,pos,af,none⟩::os) K ⟨f,rows,clk⟩)=s8 E (aX f fo) (args.toList.map (aX f)) rows clk fun v rows clk=>aQ E ops os K ⟨put f d v,rows,clk⟩:=aan
theorem N9{g:FuncId}{cV:Array Operand}:go (aQ E ops (⟨d, .makeFunc (.func g) ⟨[]⟩ cV,ty,pos,af,none⟩::os) K ⟨f,rows,clk⟩)=aK (((cV.toList.map (aX f)).map (pz rows)).all gX=true∧fB rows ((cV.toList.map (aX f)).flatMap eI))
      (aQ E ops os K ⟨put f d (.fn g ((cV.toList.map (aX f)).map (pz rows))),HQ rows ((cV.toList.map (aX f)).flatMap eI),clk⟩):=G0
theorem adw{op:Op}{j:Nat}{want:Bool}:go (aQ E ops (⟨d,op,ty,pos,af,some (j,want)⟩::os) K ⟨f,rows,clk⟩)=qQ (G3 ops j) f want (aQ E ops (⟨d,op,ty,pos,af,none⟩::os) K ⟨f,rows,clk⟩) (aQ E ops os K ⟨put f d (.fE []),rows,clk⟩):=by
 rw [KH,←NV];rfl
theorem ahH{x:Operand}:go (aT E ops clk k (⟨d, .move x,ty,pos,af,none⟩::os) K ⟨f,rows,cI,aU⟩)=go (aT E ops clk (k+1) os K ⟨put f d (aX f x),rows,cI,aU⟩):=aao
theorem aax{x:Operand}:go (aT E ops clk k (⟨d, .assign x,ty,pos,af,none⟩::os) K ⟨f,rows,cI,aU⟩)=go (aT E ops clk (k+1) os K ⟨put f d (aX f x),rows,cI,aU⟩):=NQ
theorem ahI{c a b:Operand}:go (aT E ops clk k (⟨d, .pick c a b,ty,pos,af,none⟩::os) K ⟨f,rows,cI,aU⟩)=i3 (aX f c) true (aT E ops clk (k+1) os K ⟨put f d (aX f a),rows,cI,aU⟩) (aT E ops clk (k+1) os K ⟨put f d (aX f b),rows,cI,aU⟩):=aap
theorem am4{op:BinOp}{t t2:TypeId}{x y:Operand}:go (aT E ops clk k (⟨d, .binOp op t x y t2,ty,pos,af,none⟩::os) K ⟨f,rows,cI,aU⟩)=bA (fun v=>JR E op t (aX f x) (aX f y) v) fun v=>aT E ops clk (k+1) os K ⟨put f d v,rows,cI,aU⟩:=adg
theorem asH{op:UnOp}{t:TypeId}{x:Operand}:go (aT E ops clk k (⟨d, .unOp op t x,ty,pos,af,none⟩::os) K ⟨f,rows,cI,aU⟩)=bA (fun v=>yun op (aX f x) v) fun v=>aT E ops clk (k+1) os K ⟨put f d v,rows,cI,aU⟩:=ahu
theorem ahJ{s t:TypeId}{x:Operand}:go (aT E ops clk k (⟨d, .convert s t x,ty,pos,af,none⟩::os) K ⟨f,rows,cI,aU⟩)=bA (fun v=>vF (E.ty s) (E.ty t) (aX f x) v) fun v=>aT E ops clk (k+1) os K ⟨put f d v,rows,cI,aU⟩:=aaq
theorem T1{i:Nat}{x:Operand}:go (aT E ops clk k (⟨d, .extract x i,ty,pos,af,none⟩::os) K ⟨f,rows,cI,aU⟩)=xQ i (aX f x) fun v=>aT E ops clk (k+1) os K ⟨put f d v,rows,cI,aU⟩:=by
 show aT E ops clk k (⟨d, .extract x i,ty,pos,af,none⟩::os) K ⟨f,rows,cI,aU⟩=_
 rw [KE,H4]
theorem ahK{t:TypeId}{x:Operand}:go (aT E ops clk k (⟨d, .load t x,ty,pos,af,none⟩::os) K ⟨f,rows,cI,aU⟩)=l8 E t (fC .any ops k aU rows) (aX f x) fun v=>aT E ops clk (k+1) os K ⟨put f d v,rows,mN k (bM (aX f x)) cI,aU⟩:=TZ
theorem adx{t:TypeId}{i:Nat}{x:Operand}:go (aT E ops clk k (⟨d, .field t x i,ty,pos,af,none⟩::os) K ⟨f,rows,cI,aU⟩)=kV (E.ty t) i (aX f x) fun v=>aT E ops clk (k+1) os K ⟨put f d v,rows,cI,aU⟩:=N4
theorem KN{t:TypeId}{i:Nat}{x:Operand}:go (aT E ops clk k (⟨d, .fieldAddr t x i,ty,pos,af,none⟩::os) K ⟨f,rows,cI,aU⟩)=eE (E.ty t) (fC .any ops k aU rows) i (aX f x) fun v=>aT E ops clk (k+1) os K ⟨put f d v,rows,mN k (bM (aX f x)) cI,aU⟩:=CI
theorem KO{t:TypeId}{x y:Operand}:go (aT E ops clk k (⟨d, .indexAddr t x y,ty,pos,af,none⟩::os) K ⟨f,rows,cI,aU⟩)=cZ (E.ty t) (fC .any ops k aU rows) (aX f x) (aX f y) fun v=>aT E ops clk (k+1) os K ⟨put f d v,rows,mN k (bM (aX f x)) cI,aU⟩:=CJ
theorem ady{t:TypeId}{x:Operand}{lo hi mx:Option Operand}:go (aT E ops clk k (⟨d, .slice t x lo hi mx,ty,pos,af,none⟩::os) K ⟨f,rows,cI,aU⟩)=gN (E.ty t) (fC .any ops k aU rows) (aX f x) (lo.map (aX f)) (hi.map (aX f)) (mx.map (aX f)) fun v=>aT E ops clk (k+1) os K ⟨put f d v,rows,mN k (bM (aX f x)) cI,aU⟩:=N5
theorem adz{t:TypeId}{parts:Array (Nat × Operand)}:go (aT E ops clk k (⟨d, .build t parts,ty,pos,af,none⟩::os) K ⟨f,rows,cI,aU⟩)=mI (E.ty t) (parts.toList.map fun x=>(x.1,aX f x.2)) fun v=>aT E ops clk (k+1) os K ⟨put f d v,rows,cI,aU⟩:=by
 show aT E ops clk k (⟨d, .build t parts,ty,pos,af,none⟩::os) K ⟨f,rows,cI,aU⟩=_
 rw [TT,BF]
theorem OA{x:Operand}:go (aT E ops clk k (⟨d, .nilCheck x,ty,pos,af,none⟩::os) K ⟨f,rows,cI,aU⟩)=vM (fC .any ops k aU rows) (aX f x) fun v=>aT E ops clk (k+1) os K ⟨put f d v,rows,mN k (bM (aX f x)) cI,aU⟩:=by show aT E ops clk k _ K _=_;rw [G1,HY]
theorem am5{t:TypeId}{x:Operand}:go (aT E ops clk k (⟨d, .call { callee:=.builtin .len,args:=⟨[x]⟩,argTypes:=⟨[t]⟩ },ty,pos,af,none⟩::os) K ⟨f,rows,cI,aU⟩)=m9 (E.ty t) (fC .any ops k aU rows) (aX f x) fun v=>aT E ops clk (k+1) os K ⟨put f d v,rows,mN k (bM (aX f x)) cI,aU⟩:=aav
theorem am6{ts:Array TypeId}{x y:Operand}:go (aT E ops clk k (⟨d, .call { callee:=.builtin .max,args:=⟨[x,y]⟩,argTypes:=ts },ty,pos,af,none⟩::os) K ⟨f,rows,cI,aU⟩)=bA (fun v=>SK (aX f x) (aX f y) v) fun v=>aT E ops clk (k+1) os K ⟨put f d v,rows,cI,aU⟩:=adi
theorem am7{ts:Array TypeId}{x y:Operand}:go (aT E ops clk k (⟨d, .call { callee:=.builtin .min,args:=⟨[x,y]⟩,argTypes:=ts },ty,pos,af,none⟩::os) K ⟨f,rows,cI,aU⟩)=bA (fun v=>SL (aX f x) (aX f y) v) fun v=>aT E ops clk (k+1) os K ⟨put f d v,rows,cI,aU⟩:=adj
theorem G5{t:TypeId}{len:Nat}{parts:Array (Nat × Operand)}:go (aT E ops clk k (⟨d, .buildSlice t len parts,ty,pos,af,none⟩::os) K ⟨f,rows,cI,aU⟩)=xP (E.ty t) (fC .any ops k aU rows) len (parts.toList.map fun x=>(x.1,aX f x.2)) fun v=>aT E ops clk (k+1) os K ⟨put f d v,rows,cI,aU⟩:=by
 show aT E ops clk k (⟨d, .buildSlice t len parts,ty,pos,af,none⟩::os) K ⟨f,rows,cI,aU⟩=_
 rw [CE,H3]
theorem adA{t:TypeId}{p x:Operand}:go (aT E ops clk k (⟨none, .store t p x,ty,pos,af,none⟩::os) K ⟨f,rows,cI,aU⟩)=kW E t (fC .any ops k aU rows) (aX f p) (aX f x) fun id r=>aK (DZ .any ops k id cI) (aT E ops clk (k+1) os K ⟨f,eQ rows id (some r),mN k (bM (aX f p)++((cU (aX f x)).getD []).flatMap bM) cI,qO k id aU⟩):=N6
theorem adB{t:TypeId}:go (aT E ops clk k (⟨d, .alloc t,ty,pos,af,none⟩::os) K ⟨f,rows,cI,aU⟩)=aK ((E.ty t).known=true∧DZ .any ops k (d.getD 0) cI) (aT E ops (clk+1) (k+1) os K ⟨put f d (.ptr (d.getD 0) clk 0 0),eQ rows (d.getD 0) (some ⟨clk,t,(E.ty t).size,[(E.ty t).zero]⟩),cI,qO k (d.getD 0) aU⟩):=TV
theorem am8{t:TypeId}{x:Operand}:go (aT E ops clk k (⟨d, .box t x,ty,pos,af,none⟩::os) K ⟨f,rows,cI,aU⟩)=aK ((E.ty t).known=true) (gI (cU (aX f x)) fun l=>aK (iU (fun _=>none) l∧l.length=(E.ty t).size∧DZ .any ops k (d.getD 0) cI) (aT E ops (clk+1) (k+1) os K ⟨put f d (.ptr (d.getD 0) clk 0 0),eQ rows (d.getD 0) (some ⟨clk,t,(E.ty t).size,[l]⟩),cI,qO k (d.getD 0) aU⟩)):=by
 show aT E ops clk k (⟨d, .box t x,ty,pos,af,none⟩::os) K ⟨f,rows,cI,aU⟩=_
 rw [adl]
 simp only [aK,gI,iU]
theorem KP{t:TypeId}{l c:Operand}:go (aT E ops clk k (⟨d, .makeSlice t l c,ty,pos,af,none⟩::os) K ⟨f,rows,cI,aU⟩)=s7 (E.ty t) (aX f l) (aX f c) fun e n z x=>aK (DZ .any ops k (d.getD 0) cI) (aT E ops (clk+1) (k+1) os K ⟨put f d (.own (d.getD 0) clk 0 x.toNat),eQ rows (d.getD 0) (some ⟨clk,e,n,List.replicate x.toNat z⟩),cI,qO k (d.getD 0) aU⟩):=EE
def vO(t:TI)(rows:Rows)(x y:PV)(clk d:Nat)(K:PV→Nat→Row→Prop):Prop:=
 match t with
 | .slice e n b _=>lS rows y fun l=>aK (bT n l) (match x with
  | .nil=>aK (l.length≤room∧l.length*b≤room) (K (.own d clk 0 l.length) d ⟨clk,e,n,l⟩)
  | .own id ver off len=>cD (rows id) ver fun r=>aK (off=0∧len=r.els.length∧r.e=e∧r.size=n) (aK (len+l.length≤room∧(len+l.length)*b≤room) (K (.own id clk 0 (len+l.length)) id ⟨clk,e,n,r.els++l⟩))
  | _=>False)
 | _=>False
@[congr] theorem akt{t t':TI}{rows rows':Rows}{x x' y y':PV}{clk d:Nat}{K:PV→Nat→Row→Prop}(h1:t=t')(h2:rows=rows')(h3:x=x')(h4:y=y') :
  vO t rows x y clk d K=vO t' rows' x' y' clk d K:=by rw [h1,h2,h3,h4]
@[simp] theorem aqF{e:TypeId}{n b:Nat}{z:List PV}{rows:Rows}{y:PV}{clk d:Nat}{K:PV→Nat→Row→Prop}:vO (.slice e n b z) rows .nil y clk d K=lS rows y fun l=>aK (bT n l) (aK (l.length≤room∧l.length*b≤room) (K (.own d clk 0 l.length) d ⟨clk,e,n,l⟩)):=rfl
@[simp] theorem aqG{e:TypeId}{n b:Nat}{z:List PV}{rows:Rows}{y:PV}{clk d id ver off len:Nat}{K:PV→Nat→Row→Prop}:vO (.slice e n b z) rows (.own id ver off len) y clk d K=lS rows y fun l=>aK (bT n l) (cD (rows id) ver fun r=>aK (off=0∧len=r.els.length∧r.e=e∧r.size=n) (aK (len+l.length≤room∧(len+l.length)*b≤room) (K (.own id clk 0 (len+l.length)) id ⟨clk,e,n,r.els++l⟩))):=rfl
@[simp] theorem asI(t:TI)(r:Rows)(x y:PV)(c d:Nat)(K:PV→Nat→Row→Prop):go (vO t r x y c d K)=vO t r x y c d K:=rfl
theorem adC{t:TI}{rows:Rows}{x y:PV}{clk d:Nat}{K:PV→Nat→Row→Prop}:(∃v id r,s5 t rows x y clk d v (some (id,r))∧K v id r)=vO t rows x y clk d K:=by
 cases t with
 | slice e n b z =>
  simp only [vO,s5]
  rw [←XC]
  apply propext
  cases x with
  | nil =>
   simp only [aK,bT]
   constructor
   ·rintro⟨v,id,r,⟨l,h1,h2,h3,h4,rfl,h5⟩,h6⟩
    cases h5
    exact⟨l,h1,h2,⟨h3,h4⟩,h6⟩
   ·rintro⟨l,h1,h2,⟨h3,h4⟩,h6⟩
    exact⟨_,_,_,⟨l,h1,h2,h3,h4,rfl,rfl⟩,h6⟩
  | own id ver off len =>
   simp only [aK,bT,cD]
   constructor
   ·rintro⟨v,kJ,r',⟨l,h1,h2,r,h3,h4,h5,h6,h7,h8,h9,h10,rfl,h11⟩,h12⟩
    cases h11
    exact⟨l,h1,h2,r,h3,h4,⟨h5,h6,h7,h8⟩,⟨h9,h10⟩,h12⟩
   ·rintro⟨l,h1,h2,r,h3,h4,⟨h5,h6,h7,h8⟩,⟨h9,h10⟩,h12⟩
    exact⟨_,_,_,⟨l,h1,h2,r,h3,h4,h5,h6,h7,h8,h9,h10,rfl,rfl⟩,h12⟩
  | _=>simp [aK]
 | _=>simp [vO,s5]
theorem aay{t t2:TypeId}{x y:Operand}:go (aT E ops clk k (⟨d, .call { callee:=.builtin .append,args:=⟨[x,y]⟩,argTypes:=⟨[t,t2]⟩ },ty,pos,af,none⟩::os) K ⟨f,rows,cI,aU⟩) =
  aK (t2=t∨slT (E.ty t2)=true) (vO (E.ty t) (fC .any ops k aU rows) (aX f x) (aX f y) clk (d.getD 0) fun v id r=>aK (DZ .any ops k id cI) (aT E ops (clk+1) (k+1) os K ⟨put f d v,eQ rows id (some r),mN k (bM (aX f x)++bM (aX f y)) cI,qO k id aU⟩)):=by
 show aT E ops clk k (⟨d, .call { callee:=.builtin .append,args:=⟨[x,y]⟩,argTypes:=⟨[t,t2]⟩ },ty,pos,af,none⟩::os) K ⟨f,rows,cI,aU⟩=_
 rw [NR]
 congr 1
 exact adC
theorem adD{s:Tmp}{args:Array Operand}{ts:Array TypeId}:go (aT E ops clk k (⟨d, .call { callee:=.value (.tmp s),args:=args,argTypes:=ts },ty,pos,af,none⟩::os) K ⟨f,rows,cI,aU⟩)=qP E (f s) (args.toList.map (aX f)) (fC .any ops k aU rows) fun v=>aT E ops clk (k+1) os K ⟨put f d v,rows,cI,aU⟩:=HW rfl
def uI(P:Program)(g:FuncId)(args:List PV)(c:Prop)(K:TypeId→Nat→List (List PV)→Prop):Prop:=∃e n els,(args.all gX=true∧iX P g args e n els∧c)∧K e n els
@[congr] theorem agR{P:Program}{g:FuncId}{args NP:List PV}{c c':Prop}{K:TypeId→Nat→List (List PV)→Prop}(h:args=NP)(hc:c=c'):uI P g args c K=uI P g NP c' K:=by rw [h,hc]
@[simp] theorem ana{P:Program}{g:FuncId}{args:List PV}{c:Prop}{K:TypeId→Nat→List (List PV)→Prop}:go (uI P g args c K)=uI P g args c K:=rfl
theorem H6{P:Program}{g:FuncId}{args:List PV}{c:Prop}{K:TypeId→Nat→List (List PV)→Prop}{e:TypeId}{n:Nat}{els:List (List PV)}(h:iX P g args e n els)(hp:args.all gX=true)(hc:c)(hK:go (K e n els)):uI P g args c K:=⟨e,n,els,⟨hp,h,hc⟩,hK⟩
theorem adE{g:FuncId}{args:Array Operand}{ts:Array TypeId}:go (aT E ops clk k (⟨d, .call { callee:=.value (.func g),args:=args,argTypes:=ts },ty,pos,af,none⟩::os) K ⟨f,rows,cI,aU⟩) =
  if E.writes g=true then uI E.P g (args.toList.map (aX f)) (DZ .any ops k (d.getD 0) cI) (fun e n els=>aT E ops (clk+1) (k+1) os K ⟨put f d (.own (d.getD 0) clk 0 els.length),eQ rows (d.getD 0) (some ⟨clk,e,n,els⟩),cI,qO k (d.getD 0) aU⟩)
  else qP E (.fn g []) (args.toList.map (aX f)) (fC .any ops k aU rows) fun v=>aT E ops clk (k+1) os K ⟨put f d v,rows,cI,aU⟩:=by
 split
 ·rename_i hw;exact TW hw
 ·rename_i hw;exact HW (by simpa [eA]using hw)
theorem OB{g:FuncId}{cV:Array Operand}:go (aT E ops clk k (⟨d, .makeFunc (.func g) ⟨[]⟩ cV,ty,pos,af,none⟩::os) K ⟨f,rows,cI,aU⟩)=aK ((cV.toList.map fun x=>aX f x).all gX=true) (aT E ops clk (k+1) os K ⟨put f d (.fn g (cV.toList.map fun x=>aX f x)),rows,cI,aU⟩):=G2
theorem adF{op:Op}{j:Nat}{want:Bool}:go (aT E ops clk k (⟨d,op,ty,pos,af,some (j,want)⟩::os) K ⟨f,rows,cI,aU⟩)=qQ (G3 ops j) f want (aT E ops clk k (⟨d,op,ty,pos,af,none⟩::os) K ⟨f,rows,cI,aU⟩) (aT E ops clk (k+1) os K ⟨put f d (.fE []),rows,cI,aU⟩):=by
 rw [KH,←NW];rfl
theorem adG{σ:PS}:go (aQ E ops [] K σ)=K σ:=rfl
theorem anb{st:ST}:go (aT E ops clk k [] K st)=go (K ⟨st.f,st.rows,clk⟩):=rfl
@[simp] theorem XF{s:Nat}:aX f (.tmp s)=f s:=rfl
@[simp] theorem asK{g:FuncId}:aX f (.func g) = .fn g []:=rfl
@[simp] theorem aaz{v:Value}:aX f (.const v)=pD v:=rfl
end
@[simp] theorem anc{k:IntKind}{n:Int}:pD (.int k n) = .int k n:=rfl
@[simp] theorem aku{b:Bool}:pD (.bool b) = .bool b:=rfl
@[simp] theorem T3{s:ByteArray}:pD (.string s) = .str s:=rfl
@[simp] theorem akv:pD (.pointer none) = .lM:=rfl
@[simp] theorem akw:jS (.pointer none) = .lM:=rfl
@[simp] theorem ane:pD (.slice none 0 0) = .nil:=rfl
@[simp] theorem anf{cs:List Value}:pD (.agg ⟨cs⟩) = .ag (cs.map jS):=rfl
@[simp] theorem ang{k:IntKind}{n:Int}:jS (.int k n) = .int k n:=rfl
@[simp] theorem akx{b:Bool}:jS (.bool b) = .bool b:=rfl
@[simp] theorem anh{s:ByteArray}:jS (.string s) = .str s:=rfl
@[simp] theorem ani:jS (.slice none 0 0) = .nil:=rfl
@[simp] theorem asL(R K:PV→Prop):go (bA R K)=bA R K:=rfl
@[simp] theorem asM(p:PV)(w:Bool)(A B:Prop):go (stepG p w A B)=stepG p w A B:=rfl
@[simp] theorem asN(p:PV)(w:Bool)(A B:Prop):go (i3 p w A B)=i3 p w A B:=rfl
@[simp] theorem asO(A B:Prop):go (aK A B)=aK A B:=rfl
@[simp] theorem asP(P:Program)(g:FuncId)(l:List PV)(K:PV→Prop):go (xN P g l K)=xN P g l K:=rfl
@[simp] theorem anj(o:Option Row)(v:Nat)(K:Row→Prop):go (cD o v K)=cD o v K:=rfl
@[simp] theorem ayH(l:List (List PV))(i:Nat)(K:List PV→Prop):go (HX l i K)=HX l i K:=rfl
@[simp] theorem ayI(t:TI)(l:List PV)(j:Nat)(K:PV→Prop):go (BB t l j K)=BB t l j K:=rfl
@[simp] theorem aqH(E:Env)(t:TypeId)(r:Rows)(p:PV)(K:PV→Prop):go (l8 E t r p K)=l8 E t r p K:=rfl
@[simp] theorem ank(t:TI)(i:Nat)(x:PV)(K:PV→Prop):go (kV t i x K)=kV t i x K:=rfl
@[simp] theorem awG(p:Nat × Nat × Bool)(l:List PV)(K:PV→Prop):go (KF p l K)=KF p l K:=rfl
@[simp] theorem asQ(r:Rows)(x:PV)(K:PV→Prop):go (vM r x K)=vM r x K:=rfl
@[simp] theorem adH(t:TI)(r:Rows)(i:Nat)(x:PV)(K:PV→Prop):go (eE t r i x K)=eE t r i x K:=rfl
@[simp] theorem adI(t:TI)(r:Rows)(x y:PV)(K:PV→Prop):go (cZ t r x y K)=cZ t r x y K:=rfl
@[simp] theorem ayJ(d:Nat)(o:Option PV)(K:Nat→Prop):go (BD d o K)=BD d o K:=rfl
@[simp] theorem anl(t:TI)(r:Rows)(x:PV)(a b c:Option PV)(K:PV→Prop):go (gN t r x a b c K)=gN t r x a b c K:=rfl
@[simp] theorem asR(t:TI)(r:Rows)(x:PV)(K:PV→Prop):go (m9 t r x K)=m9 t r x K:=rfl
@[simp] theorem anm(E:Env)(t:TypeId)(r:Rows)(p x:PV)(K:Nat→Row→Prop):go (kW E t r p x K)=kW E t r p x K:=rfl
@[simp] theorem asS(r:Rows)(y:PV)(K:List (List PV)→Prop):go (lS r y K)=lS r y K:=rfl
@[simp] theorem asT(t:TI)(r:Rows)(x y:PV)(c d:Nat)(K:PV→Rows→Nat→Prop):go (s9 t r x y c d K)=s9 t r x y c d K:=rfl
@[simp] theorem asU(t:TI)(x y:PV)(K:TypeId→Nat→List PV→Int→Prop):go (s7 t x y K)=s7 t x y K:=rfl
@[simp] theorem aqI(E:Env)(p:PV)(l:List PV)(r:Rows)(clk:Nat)(K:PV→Rows→Nat→Prop):go (s8 E p l r clk K)=s8 E p l r clk K:=rfl
@[simp] theorem asV(P:Program)(g:FuncId)(l:List PV)(r:Rows)(clk:Nat)(K:PV→Rows→Nat→Prop):go (A5 P g l r clk K)=A5 P g l r clk K:=rfl
@[simp] theorem aqJ(E:Env)(p:PV)(l:List PV)(r:Rows)(K:PV→Prop):go (qP E p l r K)=qP E p l r K:=rfl
@[simp] theorem asW{fs:List (Nat × Nat × Bool)}{ps:List (Nat × PV)}{z:List PV}{K:List PV→Prop}:go (n5 fs ps z K)=n5 fs ps z K:=rfl
@[simp] theorem ann{t:TI}{ps:List (Nat × PV)}{K:PV→Prop}:go (mI t ps K)=mI t ps K:=rfl
@[simp] theorem aqK{n k:Nat}{ps:List (Nat × PV)}{K:List (List PV)→Prop}:go (jU n k ps K)=jU n k ps K:=rfl
@[simp] theorem asX{t:TI}{rows:Rows}{len:Nat}{ps:List (Nat × PV)}{K:PV→Prop}:go (xP t rows len ps K)=xP t rows len ps K:=rfl
@[simp] theorem asY{i:Nat}{x:PV}{K:PV→Prop}:go (xQ i x K)=xQ i x K:=rfl
@[simp] theorem awH{α:Type}(o:Option α)(K:α→Prop):go (gI o K)=gI o K:=rfl
@[simp] theorem aBN{α:Type}(p:α→Prop):go (∃x,p x) = ∃x,go (p x):=rfl
@[simp] theorem asZ:go False=False:=rfl
@[simp] theorem aBO{p:Prop}:go (go p)=go p:=rfl
@[simp] theorem aky{t:PV}{K:PV→Prop}:bA (fun v=>v=t) K=go (K t):=kU
@[simp] theorem ayK{t:PV}{K:PV→Prop}:bA (fun v=>t=v) K=go (K t):=aah
@[simp] theorem ahL{B:Prop}:aK True B=go B:=TF
@[simp] theorem aBP{A B:Prop}:stepG (.bool true) true A B=go A:=ac2
@[simp] theorem aBQ{A B:Prop}:stepG (.bool true) false A B=go B:=ac3
@[simp] theorem aBR{A B:Prop}:stepG (.bool false) true A B=go B:=ac4
@[simp] theorem aBS{A B:Prop}:stepG (.bool false) false A B=go A:=ac5
@[simp] theorem aBT{w:Bool}{A B:Prop}:stepG (.fE []) w A B=go B:=ac6
@[simp] theorem aBU{A B:Prop}:i3 (.bool true) true A B=go A:=acZ
@[simp] theorem aBV{A B:Prop}:i3 (.bool true) false A B=go B:=ac0
@[simp] theorem aBW{A B:Prop}:i3 (.bool false) true A B=go B:=ac1
@[simp] theorem aBX{A B:Prop}:i3 (.bool false) false A B=go A:=ac7
theorem gA{c B:Prop}(h:c):aK c B=go B:=by simp [aK,go,h]
attribute [simp] j7 acY D7 ac8 amK TG KB XE H5 ahE adp asG KJ T0 ahF adq KK KL adr ads N7 N8 OA am0 am1 am2 G4 adt adu am3 KM aaw ahG N9 adw ahH aax ahI am4 asH ahJ T1 ahK adx KN KO ady adz am5 am6 am7 G5 adA adB am8 KP aay adD adE OB adF adG anb
attribute [simp] slT JR yun vF vW SK SL s7 s8 qP vE TI.known TI.size TI.zero TI.agg acR acS NL room
theorem G6{E:Env}{ops:List Oper}{K:PS→Prop}{f:Nat→PV}{rows:Rows}{clk:Nat}:iE E 0 ops K ⟨f,rows,clk⟩=aT E ops clk 0 ops K ⟨f,rows,fun _ _=>False,fun _ _=>False⟩:=by simp [iE]
@[simp] theorem aqL{b:Bool}:gX (.bool b)=true:=rfl
@[simp] theorem ano{b:Bool}:dB (.bool b)=true:=rfl
@[simp] theorem aqM{b:Bool}:bM (.bool b) = []:=rfl
@[simp] theorem aqN{rows:Rows}{b:Bool}:jF rows (.bool b)=True:=rfl
@[simp] theorem akz{b:Bool}:cU (.bool b)=some [.bool b]:=rfl
@[simp] theorem akA{b:Bool}:fT (.bool b)=some [.bool b]:=rfl
@[simp] theorem as0{k:IntKind}{n:Int}:gX (.int k n)=true:=rfl
@[simp] theorem aqO{k:IntKind}{n:Int}:dB (.int k n)=true:=rfl
@[simp] theorem as1{k:IntKind}{n:Int}:bM (.int k n) = []:=rfl
@[simp] theorem as2{rows:Rows}{k:IntKind}{n:Int}:jF rows (.int k n)=True:=rfl
@[simp] theorem anp{k:IntKind}{n:Int}:cU (.int k n)=some [.int k n]:=rfl
@[simp] theorem anq{k:IntKind}{n:Int}:fT (.int k n)=some [.int k n]:=rfl
@[simp] theorem as3{s:ByteArray}:gX (.str s)=true:=rfl
@[simp] theorem aqP{s:ByteArray}:dB (.str s)=true:=rfl
@[simp] theorem as4{s:ByteArray}:bM (.str s) = []:=rfl
@[simp] theorem as5{rows:Rows}{s:ByteArray}:jF rows (.str s)=True:=rfl
@[simp] theorem anr{s:ByteArray}:cU (.str s)=some [.str s]:=rfl
@[simp] theorem ans{s:ByteArray}:fT (.str s)=some [.str s]:=rfl
@[simp] theorem aqQ  : gX .lM=true:=rfl
@[simp] theorem ant  : dB .lM=true:=rfl
@[simp] theorem aqR  : bM .lM = []:=rfl
@[simp] theorem aqS  : eI .lM = []:=rfl
@[simp] theorem awI{rows:Rows}:fz rows .lM = .lM:=rfl
@[simp] theorem awJ{rows:Rows}:pz rows .lM = .lM:=rfl
@[simp] theorem aqT{rows:Rows}  : jF rows .lM=True:=rfl
@[simp] theorem akB  : cU .lM=some [.lM]:=rfl
@[simp] theorem akC  : fT .lM=some [.lM]:=rfl
@[simp] theorem as6  : gX .nil=true:=rfl
@[simp] theorem aqU  : dB .nil=true:=rfl
@[simp] theorem as7  : bM .nil = []:=rfl
@[simp] theorem as8{rows:Rows}  : jF rows .nil=True:=rfl
@[simp] theorem anu  : cU .nil=some [.nil]:=rfl
@[simp] theorem anv  : fT .nil=some [.nil]:=rfl
@[simp] theorem awK{l:List (List PV)}:gX (.sl l)=true:=rfl
@[simp] theorem as9{l:List (List PV)}:dB (.sl l)=true:=rfl
@[simp] theorem awL{l:List (List PV)}:bM (.sl l) = []:=rfl
@[simp] theorem awM{rows:Rows}{l:List (List PV)}:jF rows (.sl l)=True:=rfl
@[simp] theorem aqV{l:List (List PV)}:cU (.sl l)=some [.sl l]:=rfl
@[simp] theorem aqW{l:List (List PV)}:fT (.sl l)=some [.sl l]:=rfl
@[simp] theorem ata{l:List (List PV)}:gX (.kO l)=true:=rfl
@[simp] theorem aqX{l:List (List PV)}:dB (.kO l)=true:=rfl
@[simp] theorem atb{l:List (List PV)}:bM (.kO l) = []:=rfl
@[simp] theorem atc{rows:Rows}{l:List (List PV)}:jF rows (.kO l)=True:=rfl
@[simp] theorem anw{l:List (List PV)}:cU (.kO l)=some [.kO l]:=rfl
@[simp] theorem anx{l:List (List PV)}:fT (.kO l)=some [.kO l]:=rfl
@[simp] theorem ahM{l:List PV}:gX (.rd l)=true:=rfl
@[simp] theorem adJ{l:List PV}:dB (.rd l)=true:=rfl
@[simp] theorem ahN{l:List PV}:bM (.rd l) = []:=rfl
@[simp] theorem awN{rows:Rows}{l:List PV}:jF rows (.rd l)=True:=rfl
@[simp] theorem aqY{l:List PV}:cU (.rd l)=some [.rd l]:=rfl
@[simp] theorem aqZ{l:List PV}:fT (.rd l)=some [.rd l]:=rfl
@[simp] theorem awO{f:FuncId}{l:List PV}:gX (.fn f l)=true:=rfl
@[simp] theorem atd{f:FuncId}{l:List PV}:dB (.fn f l)=true:=rfl
@[simp] theorem awP{f:FuncId}{l:List PV}:bM (.fn f l) = []:=rfl
@[simp] theorem awQ{rows:Rows}{f:FuncId}{l:List PV}:jF rows (.fn f l)=True:=rfl
@[simp] theorem aq0{f:FuncId}{l:List PV}:cU (.fn f l)=some [.fn f l]:=rfl
@[simp] theorem aq1{f:FuncId}{l:List PV}:fT (.fn f l)=some [.fn f l]:=rfl
@[simp] theorem awR{l:List PV}:gX (.ag l)=l.all dB:=rfl
@[simp] theorem ate{l:List PV}:gX (.fE l)=true:=rfl
@[simp] theorem aq2{l:List PV}:cU (.ag l)=some l:=rfl
@[simp] theorem aq3{l:List PV}:fT (.ag l)=some l:=rfl
@[simp] theorem atf{id v o l:Nat}:bM (.own id v o l) = [id]:=rfl
@[simp] theorem atg{id v o l:Nat}:bM (.ptr id v o l) = [id]:=rfl
@[simp] theorem anz{id v o l:Nat}:cU (.own id v o l)=some [.own id v o l]:=rfl
@[simp] theorem anA{id v o l:Nat}:cU (.ptr id v o l)=some [.ptr id v o l]:=rfl
def rowAt(o:Option Row)(ver:Nat):Prop:=∃r,o=some r∧r.ver=ver
@[simp] theorem anB{r:Row}{ver:Nat}:rowAt (some r) ver=(r.ver=ver):=by simp [rowAt]
@[simp] theorem ath{rows:Rows}{id v o l:Nat}:jF rows (.own id v o l)=rowAt (rows id) v:=rfl
@[simp] theorem ati{rows:Rows}{id v o l:Nat}:jF rows (.ptr id v o l)=rowAt (rows id) v:=rfl
@[simp] theorem aq4{e l:List PV}{j:Nat}:i5 [e] 0 j l = [e.take j++l++e.drop (j+l.length)]:=by simp [i5]
@[simp] theorem aq5{e:List PV}{n:Nat}:vN [e] 0 n=(n≤e.length):=by simp [vN]
@[simp] theorem aq6{E:Env}{σ:PS}{t:Tmp}{rs:List ResultVar}{K:List PV→Prop}:rV E σ (.tmp t::rs) K=rV E σ rs fun vs=>K (σ.f t::vs):=rfl
@[simp] theorem aq7{E:Env}{σ:PS}{K:List PV→Prop}:rV E σ [] K=K []:=rfl
@[simp] theorem anC{E:Env}{σ:PS}{a:Tmp}{t:TypeId}{rs:List ResultVar}{K:List PV→Prop}:rV E σ (.cell a t::rs) K=l8 E t σ.rows (σ.f a) fun v=>rV E σ rs fun vs=>K (v::vs):=by
 show(∃v,vD E t σ.rows (σ.f a) v∧rV E σ rs fun vs=>K (v::vs))=_
 rw [←wE];rfl
@[simp] theorem ahO{E:Env}{ops:List Oper}{K:PS→Prop}{f:Nat→PV}{rows:Rows}{clk:Nat}:go (iE E 0 ops K ⟨f,rows,clk⟩)=go (aT E ops clk 0 ops K ⟨f,rows,fun _ _=>False,fun _ _=>False⟩):=G6
theorem wrap_i64{n:Int}(h1 : -9223372036854775808≤n)(h2:n<9223372036854775808):IntKind.i64.wrap n=n:=by
 have e:IntKind.i64.wrap n=if n%18446744073709551616≥9223372036854775808 then n%18446744073709551616-18446744073709551616 else n%18446744073709551616:=by
  simp [IntKind.wrap,IntKind.bits,IntKind.signed]
 rw [e]
 split<;>omega
theorem wrap_u64{n:Int}(h1:0≤n)(h2:n<18446744073709551616):IntKind.u64.wrap n=n:=by
 simp only [IntKind.wrap,IntKind.bits,IntKind.signed,Bool.false_and,Bool.false_eq_true,if_false]
 omega
theorem wrap_u32{n:Int}(h1:0≤n)(h2:n<4294967296):IntKind.u32.wrap n=n:=by
 simp only [IntKind.wrap,IntKind.bits,IntKind.signed,Bool.false_and,Bool.false_eq_true,if_false]
 omega
theorem wA:(∀n:Int, -9223372036854775808≤n→n<9223372036854775808→IntKind.i64.wrap n=n)∧(∀n:Int,0≤n→n<18446744073709551616→IntKind.u64.wrap n=n)∧(∀n:Int,0≤n→n<4294967296→IntKind.u32.wrap n=n) ∧
  (∀a b:Int,0≤a→a.tdiv b=a/b)∧(∀a b:Int,0≤a→a.tmod b=a%b):=⟨fun _=>wrap_i64,fun _=>wrap_u64,fun _=>wrap_u32,fun _ _ h=>Int.tdiv_eq_ediv_of_nonneg h,fun _ _ h=>Int.tmod_eq_emod_of_nonneg h⟩
theorem gw:(∀ {c B:Prop},c→aK c B=go B)∧(∀n:Int, -9223372036854775808≤n→n<9223372036854775808→IntKind.i64.wrap n=n)∧(∀n:Int,0≤n→n<18446744073709551616→IntKind.u64.wrap n=n)∧(∀n:Int,0≤n→n<4294967296→IntKind.u32.wrap n=n) ∧
  (∀a b:Int,0≤a→a.tdiv b=a/b)∧(∀a b:Int,0≤a→a.tmod b=a%b):=⟨gA,wA⟩
theorem wrap_u8{n:Int}(h1:0≤n)(h2:n<256):IntKind.u8.wrap n=n:=by
 simp only [IntKind.wrap,IntKind.bits,IntKind.signed,Bool.false_and,Bool.false_eq_true,if_false]
 omega
theorem j8{n:Int}:IntKind.u64.wrap n=n%18446744073709551616:=by
 simp only [IntKind.wrap,IntKind.bits,IntKind.signed,Bool.false_and,Bool.false_eq_true,if_false]
 rfl
theorem wrap_u32'{n:Int}:IntKind.u32.wrap n=n%4294967296:=by
 simp only [IntKind.wrap,IntKind.bits,IntKind.signed,Bool.false_and,Bool.false_eq_true,if_false]
 rfl
section
variable {E:Env} {n:Nat} {tl:Nat→Nat} {Q:PX→PS→Prop} {σ:PS}
theorem W.cE{id:Nat}{ops:List Oper}(h:∀K:PS→Prop,(∀σ,Q .normal σ→K σ)→go (aQ E ops ops K σ)):W E n tl (.region id ops.toArray false) Q σ:=W.NM h
theorem W.H7{id:Nat}{ops:List Oper}(h:∀K:PS→Prop,(∀σ,Q .normal σ→K σ)→go (iE E (tl id) ops K σ)):W E n tl (.region id ops.toArray true) Q σ:=W.acV h
theorem W.eM{id:Nat}{ops:List Oper}{y:Code}(h:∀K:PS→Prop,(∀σ,W E n tl y Q σ→K σ)→go (aQ E ops ops K σ)):W E n tl (.seq (.region id ops.toArray false) y) Q σ:=W.TE h
theorem W.adK{id:Nat}{ops:List Oper}{y:Code}(h:∀K:PS→Prop,(∀σ,W E n tl y Q σ→K σ)→go (iE E (tl id) ops K σ)):W E n tl (.seq (.region id ops.toArray true) y) Q σ:=W.acW h
end
section
variable {E:Env} {n:Nat} {tl:Nat→Nat} {Q:PX→PS→Prop} {σ:PS}
theorem W.bE{c:Code}(I:Nat→PS→Prop)(k:Nat)(h0:∃σ0,Gh n σ σ0∧I k σ0)(h1:∀k σ,I k σ→W E n tl c (GX (fun σ'=>∃m σ'',Gh n σ' σ''∧m<k∧I m σ'') Q) σ):W E n tl (.loop c) Q σ:=by
 obtain⟨σ0,hg,h0⟩:=h0
 refine W.ghost hg ?_
 refine W.loop (fun k σ=>∃σ',Gh n σ σ'∧I k σ') k ⟨σ0,fun _ _ _ _ _ h=>h,h0⟩ ?_
 rintro k σ ⟨σ',hg,hI⟩
 refine W.ghost hg (W.mono (h1 k σ' hI) fun x τ hx=>?_)
 cases x with
 | normal=>obtain⟨m,σ'',h2,h3,h4⟩:=hx;exact⟨m,h3,σ'',h2,h4⟩
 | exit id=>exact hx
 | ret=>exact hx
theorem Gh.refl:Gh n σ σ:=fun _ _ _ _ _ h=>h
theorem W.adL{c:Operand}{t e:Code}(b:Prop)[Decidable b](hc:aX σ.f c = .bool (decide b))(h1:b→W E n tl t Q σ)(h2:¬b→W E n tl e Q σ):W E n tl (.cond c t e) Q σ:=W.cond ⟨_,hc,fun h=>h1 (of_decide_eq_true h),fun h=>h2 (of_decide_eq_false h)⟩
theorem W.ghf{f:Nat→PV}{rows:Rows}{clk:Nat}{c:Code}(l:List (Nat × PV))(hl:∀p∈l,f p.1=p.2)(h:W E n tl c Q ⟨fa l,rows,clk⟩):W E n tl c Q ⟨f,rows,clk⟩:=by
 have:=aC (f:=f) (rows:=rows) (clk:=clk) n (l.map (·.1))
 have e:((l.map (·.1)).map fun i=>(i,f i))=l:=by
  rw [List.map_map]
  conv=>rhs;rw [←List.map_id l]
  exact List.map_congr_left fun p hp=>by simp [hl p hp]
 rw [e]at this
 exact W.ghost this h
theorem Gh.fr{f:Nat→PV}{rows:Rows}{clk:Nat}(l:List (Nat × PV))(hl:∀p∈l,f p.1=p.2):Gh n ⟨f,rows,clk⟩ ⟨fa l,rows,clk⟩:=by
 have:=aC (f:=f) (rows:=rows) (clk:=clk) n (l.map (·.1))
 have e:((l.map (·.1)).map fun i=>(i,f i))=l:=by
  rw [List.map_map]
  conv=>rhs;rw [←List.map_id l]
  exact List.map_congr_left fun p hp=>by simp [hl p hp]
 rw [e]at this
 exact this
end
theorem dH{E:Env}{D5:FuncId}{fn:Func}{code:Code}(tl:Nat→Nat){args:List PV}{r:PV}(l:List (Nat × PV))(h1:E.P.funcs[D5]? = some fn)(h2:fn.body=some code) (h3:(fn.name == "runtime.NumGoroutine") = false)
  (iI:fO E fn.ntmps tl code=true) (gZ:args.length≤fn.ntmps) (hl:∀p∈l,args.getD p.1 .undef=p.2) (h:W E fn.ntmps tl code (acS E fn.results.toList r) ⟨fa l,fun _=>none,0⟩):aD E.P D5 args r:=
 acX tl h1 h2 h3 iI gZ (W.ghf l (by simpa using hl) h)
end Pm
namespace Pm
@[simp] theorem awS{a:Int}:Int.fdiv a 4294967296=a/4294967296:=Int.fdiv_eq_ediv_of_nonneg a (by decide)
@[simp] theorem awT{a:Int}:Int.fdiv a 9223372036854775808=a/9223372036854775808:=Int.fdiv_eq_ediv_of_nonneg a (by decide)
attribute [simp] Go.IntKind.bits
end Pm
namespace Pm
open Go Go.RowKit
section
variable {E:Env} {n:Nat} {tl:Nat→Nat} {Q:PX→PS→Prop} {σ:PS}
theorem W.gJ{x y:Code}(J:PS→Prop)(h:W E n tl x (GX (fun σ=>∃σ',Gh n σ σ'∧J σ') Q) σ)(hy:∀σ,J σ→W E n tl y Q σ):W E n tl (.seq x y) Q σ:=
 W.seq (W.mono h fun x σ hx=>by
  cases x with
  | normal=>obtain⟨σ',hg,hJ⟩:=hx;exact W.ghost hg (hy σ' hJ)
  | exit id=>exact hx
  | ret=>exact hx)
def T4(J:PS→Prop)(Q:PX→PS→Prop):PX→PS→Prop
 | .normal,σ=>J σ
 | .exit id,σ=>Q (.exit id) σ
 | .ret,σ=>Q .ret σ
theorem W.dV{id:Nat}{x y:Code}(J:PS→Prop)(h:W E n tl x (GY id (T4 (fun σ=>∃σ',Gh n σ σ'∧J σ') Q)) σ)(hy:∀σ,J σ→W E n tl y Q σ):W E n tl (.seq (.block id x) y) Q σ:=
 W.seq (W.block (W.mono h fun x σ hx=>by
  cases x with
  | normal=>obtain⟨σ',hg,hJ⟩:=hx;exact W.ghost hg (hy σ' hJ)
  | exit j =>
   simp only [GY]at hx ⊢
   split
   ·rename_i hj;rw [if_pos hj]at hx;obtain⟨σ',hg,hJ⟩:=hx;exact W.ghost hg (hy σ' hJ)
   ·rename_i hj;rw [if_neg hj]at hx;exact hx
  | ret=>exact hx))
theorem W.fY{id:Nat}{ops:List Oper}{y:Code}(J:PS→Prop)(h:∀K:PS→Prop,(∀σ σ',Gh n σ σ'→J σ'→K σ)→go (aQ E ops ops K σ))(hy:∀σ,J σ→W E n tl y Q σ):W E n tl (.seq (.region id ops.toArray false) y) Q σ:=
 W.eM fun K hK=>h K fun σ _ hg hJ=>hK σ (W.ghost hg (hy _ hJ))
theorem W.atj{id:Nat}{ops:List Oper}{y:Code}(J:PS→Prop)(h:∀K:PS→Prop,(∀σ σ',Gh n σ σ'→J σ'→K σ)→go (iE E (tl id) ops K σ))(hy:∀σ,J σ→W E n tl y Q σ):W E n tl (.seq (.region id ops.toArray true) y) Q σ:=
 W.adK fun K hK=>h K fun σ _ hg hJ=>hK σ (W.ghost hg (hy _ hJ))
@[simp] theorem akD{J:PS→Prop}:T4 J Q .normal σ=J σ:=rfl
@[simp] theorem atk{J:PS→Prop}:T4 J Q .ret σ=Q .ret σ:=rfl
@[simp] theorem aq8{J:PS→Prop}{id:Nat}:T4 J Q (.exit id) σ=Q (.exit id) σ:=rfl
@[simp] theorem akE{J:PS→Prop}:GX J Q .normal σ=J σ:=rfl
@[simp] theorem atl{J:PS→Prop}:GX J Q .ret σ=Q .ret σ:=rfl
@[simp] theorem aq9{J:PS→Prop}{id:Nat}:GX J Q (.exit id) σ=Q (.exit id) σ:=rfl
@[simp] theorem akF{id:Nat}:GY id Q .normal σ=Q .normal σ:=rfl
@[simp] theorem atm{id:Nat}:GY id Q .ret σ=Q .ret σ:=rfl
@[simp] theorem ara{id j:Nat}:GY id Q (.exit j) σ=if j=id then Q .normal σ else Q (.exit j) σ:=rfl
theorem pX:(∀(Q:PX→PS→Prop) (σ:PS) (id j:Nat),GY id Q (.exit j) σ=if j=id then Q .normal σ else Q (.exit j) σ)∧(∀(Q:PX→PS→Prop) (σ:PS) (id:Nat),GY id Q .normal σ=Q .normal σ)∧(∀(Q:PX→PS→Prop) (σ:PS) (id:Nat),GY id Q .ret σ=Q .ret σ) ∧
  (∀(J:PS→Prop) (Q:PX→PS→Prop) (σ:PS) (id:Nat),GX J Q (.exit id) σ=Q (.exit id) σ)∧(∀(J:PS→Prop) (Q:PX→PS→Prop) (σ:PS),GX J Q .normal σ=J σ)∧(∀(J:PS→Prop) (Q:PX→PS→Prop) (σ:PS),GX J Q .ret σ=Q .ret σ) ∧
  (∀(J:PS→Prop) (Q:PX→PS→Prop) (σ:PS) (id:Nat),T4 J Q (.exit id) σ=Q (.exit id) σ)∧(∀(J:PS→Prop) (Q:PX→PS→Prop) (σ:PS),T4 J Q .normal σ=J σ)∧(∀(J:PS→Prop) (Q:PX→PS→Prop) (σ:PS),T4 J Q .ret σ=Q .ret σ):=
 ⟨fun _ _ _ _=>rfl,fun _ _ _=>rfl,fun _ _ _=>rfl,fun _ _ _ _=>rfl,fun _ _ _=>rfl,fun _ _ _=>rfl,fun _ _ _ _=>rfl,fun _ _ _=>rfl,fun _ _ _=>rfl⟩
end
end Pm
namespace Pm
open Go
theorem atn{P:Program}{g:FuncId}{iJ:List PV}{rows:Rows}{clk:Nat}{K:PV→Rows→Nat→Prop}{R:PV→Rows→Nat→Prop}(h:Z7 P g iJ rows clk R)(hK:∀r rows' lZ,R r rows' lZ→go (K r rows' lZ)):A5 P g iJ rows clk K:=⟨R,h,hK⟩
theorem aB{P:Program}{g:FuncId}{args:List PV}{K:PV→Prop}{v:PV}(h:aD P g args v)(hK:go (K v)):xN P g args K:=⟨v,h,hK⟩
theorem W.adM{E:Env}{n:Nat}{tl:Nat→Nat}{c:Code}{Q:PX→PS→Prop}{f:Nat→PV}{rows:Rows}{clk:Nat}(l:List Nat)(h:∀K:PS→Prop,(∀σ,W E n tl c Q σ→K σ)→K ⟨fa (l.map fun i=>(i,f i)),rows,clk⟩):W E n tl c Q ⟨f,rows,clk⟩:=W.live l (h _ fun _ h=>h)
theorem W.lv{E:Env}{n:Nat}{tl:Nat→Nat}{c:Code}{Q:PX→PS→Prop}{f:Nat→PV}{rows:Rows}{clk:Nat}{K0:PS→Prop}(l:List Nat)(hK:∀σ,W E n tl c Q σ→K0 σ)(h:∀K:PS→Prop,(∀σ,W E n tl c Q σ→K σ)→K ⟨fa (l.map fun i=>(i,f i)),rows,clk⟩):K0 ⟨f,rows,clk⟩:=hK _ (W.adM l h)
inductive Bx(P:PS→Prop):Type
  | mk
def aW{P:PS→Prop}(_:Bx P)(σ:PS):Prop:=P σ
theorem W.lw{E:Env}{n:Nat}{tl:Nat→Nat}{c:Code}{Q:PX→PS→Prop}{f:Nat→PV}{rows:Rows}{clk:Nat}{K0:PS→Prop}(l:List Nat)(hK:∀σ,W E n tl c Q σ→K0 σ)(h:aW (Bx.mk (P:=W E n tl c Q)) ⟨fa (l.map fun i=>(i,f i)),rows,clk⟩):K0 ⟨f,rows,clk⟩:=hK _ (W.adM l fun _ q=>q _ h)
theorem W.lx{E:Env}{n:Nat}{tl:Nat→Nat}{c:Code}{Q:PX→PS→Prop}{f:Nat→PV}{rows:Rows}{clk:Nat}(l:List Nat)(h:aW (Bx.mk (P:=W E n tl c Q)) ⟨fa (l.map fun i=>(i,f i)),rows,clk⟩):aW (Bx.mk (P:=W E n tl c Q)) ⟨f,rows,clk⟩:=W.adM l fun _ q=>q _ h
theorem W.sr{E:Env}{n:Nat}{tl:Nat→Nat}{Q:PX→PS→Prop}{σ:PS}{id:Nat}{ops:List Oper}{y:Code}(h:go (aQ E ops ops (aW (Bx.mk (P:=W E n tl y Q))) σ)):W E n tl (.seq (.region id ops.toArray false) y) Q σ:=by
  refine W.seq ?_
  intro iI w0 S0 G a w Q' hR hQ
  simp only [fO,s6,Bool.and_eq_true]at iI
  refine wp_region_list (iT (fun σ' a' w' hk mM=>hQ .normal σ' a' w' hk mM) _ σ a w (fun o ho t ht=>?_) h hR)
  have:=Array.all_eq_true_iff_forall_mem.1 iI.1 o (by simpa using ho)
  simpa [ht]using this
theorem W.sd{E:Env}{n:Nat}{tl:Nat→Nat}{Q:PX→PS→Prop}{σ:PS}{id:Nat}{ops:List Oper}{y:Code}(h:go (iE E (tl id) ops (aW (Bx.mk (P:=W E n tl y Q))) σ)):W E n tl (.seq (.region id ops.toArray true) y) Q σ:=by
  refine W.seq ?_
  intro iI w0 S0 G a w Q' hR hQ
  exact vK (by simpa [fO]using iI) h hR fun σ' a' w' hk mM=>hQ .normal σ' a' w' hk mM
end Pm
namespace Pm
open Go Go.RowKit
def Wk(p q:PV):Prop:=q=p∨(p = .nil∧q = .sl [])
theorem Wk.rep{c:Cx}{p q:PV}{v:Value}(h:Wk p q)(hr:aV c p v):aV c q v:=by
 rcases h with rfl | ⟨rfl,rfl⟩
 ·exact hr
 ·simp only [aV,dS]at hr ⊢
  exact⟨none,0,by simpa using hr,by simp,by simp, .inl trivial⟩
theorem bO.flat{α β:Type}{R:α→β→Prop}:∀ {l:List (List α)} {m:List (List β)},bO (bO R) l m→bO R l.flatten m.flatten
 | [],[],_=>trivial
 | a::l,b::m,h=>by
  obtain⟨h1,h2⟩:=h
  have ih:=bO.flat h2
  clear h2
  induction a generalizing b with
  | nil=>cases b with
   | nil=>exact ih
   | cons=>exact h1.elim
  | cons x a iha=>cases b with
   | nil=>exact h1.elim
   | cons y b=>exact⟨h1.1,iha b h1.2⟩
theorem anD{n id ver e m clk:Nat}{f:Nat→PV}{rows:Rows}{els JY:List (List PV)}(hr:rows id=some ⟨ver,e,m,els⟩)(hw:bO (bO fun q p=>Wk p q) JY els):Gh n ⟨f,rows,clk⟩ ⟨f,eQ rows id (some ⟨ver,e,m,JY⟩),clk⟩:=by
 rintro w0 S0 G a w ⟨⟨c,rfl,sG,gH,hI,hf,hG⟩,h7,h8⟩
 have jR:c.rows id=some ⟨ver,e,m,els⟩:=by rw [sG];exact hr
 obtain⟨⟨xs,g1,g2,g3⟩,g4,g5,g6⟩:=hI.row id _ jR
 have hlen:JY.length=els.length:=hw.length
 obtain⟨zE,hA⟩:=hI.eQ (w':=c.w) (r':=⟨ver,e,m,JY⟩) (xs:=xs) jR (World.grownBy.refl _ _) (by simp only [hlen];exact g1)
  (by
   have h1:=bO.flat hw
   have:∀ {l:List PV} {k:List PV} {vs:List Value},bO (fun q p=>Wk p q) l k→bO (aV c) k vs→bO (aV c) l vs:=by
    intro l
    induction l with
    | nil=>intro k vs h h';cases k with
     | nil=>exact h'
     | cons=>exact h.elim
    | cons x l ih=>intro k vs h h';cases k with
     | nil=>exact h.elim
     | cons y k=>cases vs with
      | nil=>exact h'.elim
      | cons v vs=>exact⟨h.1.rep h'.1,ih h.2 h'.2⟩
   exact this h1 g2) g3 (fun el nT=>by
   obtain⟨k,hk⟩:=List.getElem?_of_mem nT
   obtain⟨b,hb,h1⟩:=hw.get hk
   rw [h1.length]
   exact g4 b (List.mem_of_getElem? hb)) rfl rfl hlen
 refine⟨⟨{ c with rows:=eQ c.rows id (some ⟨ver,e,m,JY⟩) },rfl,by simp [sG],gH,zE,fun s=>aO.vU hA _ _ (hf s),fun p hp=>aO.vU hA _ _ (hG p hp)⟩,h7,h8⟩
theorem anE{n s id e m clk:Nat}{f:Nat→PV}{rows:Rows}(hs:f s = .nil)(hm:0<m):Gh n ⟨f,rows,clk⟩ ⟨put f (some s) (.own id clk 0 0),eQ rows id (some ⟨clk,e,m,[]⟩),clk+1⟩:=by
 rintro w0 S0 G a w ⟨⟨c,rfl,sG,gH,hI,hf,hG⟩,h7,h8⟩
 obtain⟨zE,hA⟩:=hI.set (w':=c.w) (ob:=none) (id:=id) (r':=⟨clk,e,m,[]⟩) (v':=.slice none 0 0) (xs:=[]) (World.grownBy.refl _ _) (by simp) ⟨by simp, .inl ⟨rfl,rfl⟩⟩ (by simp [bO]) (by simp) (by simp) hm (by simp [Value.ownBlock]) (fun hu=>Nat.lt_irrefl _ (gH _ hu))
 refine⟨⟨{ c with β:=eQ c.β id (.slice none 0 0),rows:=eQ c.rows id (some ⟨clk,e,m,[]⟩),used:=fun v=>v=clk∨c.used v },rfl,by simp [sG],fun v hv=>by
  show v<clk+1
  rcases hv with rfl | hv
  ·omega
  ·have:v<clk:=gH v hv
   omega,zE,fun t=>?_,fun p hp=>aO.vU hA _ _ (hG p hp)⟩,h7,h8⟩
 simp only [put]
 split
 ·rename_i ht
  subst ht
  have h1:=hf t
  simp only at h1
  rw [hs]at h1
  simp only [aO,aV,dS]at h1
  simp only [aO,aV]
  refine⟨.inl (by first | rfl | trivial),fun r hr hv=>?_⟩
  simp only [iR,Option.some.injEq]at hr
  subst hr
  exact⟨by simp, .inl ⟨trivial,none,0,0,by simp [eQ],h1⟩⟩
 ·exact aO.vU hA _ _ (hf t)
theorem OC{α β:Type}{R:α→β→Prop}{x:α}{y:β}(h:R x y):∀k:Nat,bO R (List.replicate k x) (List.replicate k y)
 | 0=>trivial
 | k+1=>⟨h,OC h k⟩
section
variable {E:Env} {n:Nat} {tl:Nat→Nat} {Q:PX→PS→Prop} {c:Code} {f:Nat→PV} {rows:Rows} {clk:Nat}
theorem W.row{id ver e m:Nat}{els:List (List PV)}(JY:List (List PV))(hr:rows id=some ⟨ver,e,m,els⟩)(hw:bO (bO fun q p=>Wk p q) JY els)(h:W E n tl c Q ⟨f,eQ rows id (some ⟨ver,e,m,JY⟩),clk⟩):W E n tl c Q ⟨f,rows,clk⟩:=W.ghost (anD hr hw) h
theorem W.nil(s id e m:Nat)(hs:f s = .nil)(hm:0<m)(h:∀K:PS→Prop,(∀σ,W E n tl c Q σ→K σ)→K ⟨put f (some s) (.own id clk 0 0),eQ rows id (some ⟨clk,e,m,[]⟩),clk+1⟩):W E n tl c Q ⟨f,rows,clk⟩:=W.ghost (anE hs hm) (h _ fun _ h=>h)
end
def fzP(o:Option Row)(ver i j:Nat):PV:=
 match o with
 | some r=>if r.ver=ver then .rd ((r.els.getD i []).drop j)else .undef
 | none => .undef
@[simp] theorem ayM{rows:Rows}{id ver i j:Nat}:fz rows (.ptr id ver i j)=fzP (rows id) ver i j:=rfl
@[simp] theorem ayN{rows:Rows}{id ver i j:Nat}:pz rows (.ptr id ver i j)=fzP (rows id) ver i j:=rfl
@[simp] theorem awU{ver e n:Nat}{el:List PV}:fzP (some ⟨ver,e,n,[el]⟩) ver 0 0 = .rd el:=by simp [fzP]
@[simp] theorem ato{id ver i j:Nat}:eI (.ptr id ver i j) = [id]:=rfl
@[simp] theorem akG{ver e n:Nat}{el:List PV}:dG (some ⟨ver,e,n,[el]⟩) = ∀p∈el,dB p=true:=by simp [dG]
end Pm
namespace Pm
open Go
theorem fF{E:Env}{m:Nat}{ops:List Oper}{K:PS→Prop}{f:Nat→PV}{rows:Rows}{clk:Nat}:go (iE E (m+1) ops K ⟨f,rows,clk⟩)=go (aT E ops clk 0 (ops.take (ops.length-(m+1))) (aQ E ops (ops.drop (ops.length-(m+1))) K) ⟨f,rows,fun _ _=>False,fun _ _=>False⟩):=by
 simp [iE]
end Pm
namespace Pm
open Go Go.RowKit
def M3(rows:Rows)(id:Nat):PV→PV
 | .own i ver off len=>if i=id then fz rows (.own i ver off len)else .own i ver off len
 | .ptr i ver a j=>if i=id then fz rows (.ptr i ver a j)else .ptr i ver a j
 | p=>p
def KQ(rows:Rows)(id:Nat):PV→PV
 | .ag l => .ag (l.map (M3 rows id))
 | p=>M3 rows id p
theorem KR{w0:World}{S0:eG}{c:Cx}(hI:Inv w0 S0 c){id:Nat}(hp:∀r,c.rows id=some r → ∀e∈r.els,∀p∈e,dB p=true){p:PV}{v:Value}(h:aV c p v):aV (GH c [id]) (M3 c.rows id p) v:=by
 have xA:∀i ∈ [id],∀r,c.rows i=some r → ∀e∈r.els,∀p∈e,dB p=true:=by intro i hi;simp at hi;subst hi;exact hp
 have key:∀q:PV,aV c q v→(∀i∈bM q,i ∈ [id])→(fz c.rows q = .undef∨dB (fz c.rows q)=true)→aV (GH c [id]) (fz c.rows q) v:=by
  intro q hq hi ho
  rcases ho with ho | ho
  ·rw [ho];simp [aV]
  ·exact aV.kP (JW hI xA hq hi ho)
 cases p with
 | own i ver off len =>
  simp only [M3]
  split
  ·rename_i hi
   subst hi
   refine key _ h (by simp [bM]) ?_
   simp only [fz]
   cases c.rows i with
   | none=>exact .inl rfl
   | some r =>
    simp only
    split
    ·exact .inr rfl
    ·exact .inl rfl
  ·exact aV.vU (nJ c [id]) _ _ h
 | ptr i ver a j =>
  simp only [M3]
  split
  ·rename_i hi
   subst hi
   refine key _ h (by simp [bM]) ?_
   simp only [fz]
   cases c.rows i with
   | none=>exact .inl rfl
   | some r =>
    simp only
    split
    ·exact .inr rfl
    ·exact .inl rfl
  ·exact aV.vU (nJ c [id]) _ _ h
 | _=>exact aV.vU (nJ c [id]) _ _ h
theorem XG{w0:World}{S0:eG}{c:Cx}(hI:Inv w0 S0 c){id:Nat}(hp:∀r,c.rows id=some r → ∀e∈r.els,∀p∈e,dB p=true){p:PV}{v:Value}(h:aO c p v):aO (GH c [id]) (KQ c.rows id p) v:=by
 cases p with
 | ag l =>
  obtain⟨vs,h1,h2⟩:=h
  refine⟨vs,h1,bO.eC (by simp [h2.length]) fun k a b ha hb=>?_⟩
  simp at ha
  obtain⟨q,hq,rfl⟩:=ha
  obtain⟨b',GO,hr⟩:=h2.get hq
  rw [hb]at GO;cases GO
  exact KR hI hp hr
 | _ =>
  simp only [aO]at h
  have:=KR hI hp h
  simp only [KQ]
  exact(by
   first
    | (simp only [M3,aO]at this ⊢;exact this)
    | (simp only [M3]at this ⊢
       split
       · rename_i hi;rw [if_pos hi]at this;simp only [fz]at this ⊢;revert this;split<;>(try split)<;>exact fun h=>h
       · rename_i hi;rw [if_neg hi]at this;exact this))
theorem H8{rows:Rows}{id:Nat}:KQ rows id .undef = .undef:=rfl
theorem adN{l:List (Nat × PV)}{g:PV→PV}(hg:g .undef = .undef):(fun s=>g (fa l s))=fa (l.map fun p=>(p.1,g p.2)):=by
 funext s
 induction l with
 | nil=>exact hg
 | cons p l ih =>
  obtain⟨i,v⟩:=p
  simp only [fa,List.map_cons]
  split
  ·rfl
  ·exact ih
theorem aaA{n clk:Nat}{l:List (Nat × PV)}{rows:Rows}(id:Nat)(hp:dG (rows id)):Gh n ⟨fa l,rows,clk⟩ ⟨fa (l.map fun p=>(p.1,KQ rows id p.2)),HQ rows [id],clk⟩:=by
 rintro w0 S0 G a w ⟨⟨c,rfl,sG,gH,hI,hf,hG⟩,h7,h8⟩
 have adO:c.rows=rows:=sG
 subst adO
 refine⟨⟨GH c [id],rfl,rfl,gH,hI.freeze [id],fun s=>?_,fun p hp=>aO.vU (nJ c [id]) _ _ (hG p hp)⟩,h7,h8⟩
 rw [←adN (g:=KQ c.rows id) H8]
 exact XG hI hp (hf s)
theorem W.freeze{E:Env}{n:Nat}{tl:Nat→Nat}{Q:PX→PS→Prop}{c:Code}{l:List (Nat × PV)}{rows:Rows}{clk:Nat}(id:Nat)(hp:dG (rows id))(h:∀K:PS→Prop,(∀σ,W E n tl c Q σ→K σ)→K ⟨fa (l.map fun p=>(p.1,KQ rows id p.2)),HQ rows [id],clk⟩):W E n tl c Q ⟨fa l,rows,clk⟩:=W.ghost (aaA id hp) (h _ fun _ h=>h)
@[simp] theorem awV{rows:Rows}{id i ver off len:Nat}:KQ rows id (.own i ver off len)=if i=id then fzR (rows i) ver off len else .own i ver off len:=rfl
@[simp] theorem awW{rows:Rows}{id i ver a j:Nat}:KQ rows id (.ptr i ver a j)=if i=id then fzP (rows i) ver a j else .ptr i ver a j:=rfl
@[simp] theorem awX{α:Type}{g:α→List PV}{rows:Rows}{id:Nat}{l:List α}:KQ rows id (aG g l)=aG g l:=rfl
@[simp] theorem awY{rows:Rows}{id:Nat}{k:IntKind}{n:Int}:KQ rows id (.int k n) = .int k n:=rfl
@[simp] theorem atp{rows:Rows}{id:Nat}{b:Bool}:KQ rows id (.bool b) = .bool b:=rfl
@[simp] theorem awZ{rows:Rows}{id:Nat}:KQ rows id .nil = .nil:=rfl
@[simp] theorem ayO{rows:Rows}{id:Nat}{l:List (List PV)}:KQ rows id (.sl l) = .sl l:=rfl
@[simp] theorem aw0{rows:Rows}{id:Nat}{l:List (List PV)}:KQ rows id (.kO l) = .kO l:=rfl
@[simp] theorem ayP{rows:Rows}{id:Nat}{l:List PV}:KQ rows id (.ag l) = .ag (l.map (M3 rows id)):=rfl
@[simp] theorem aw1{rows:Rows}{id:Nat}{k:IntKind}{n:Int}:M3 rows id (.int k n) = .int k n:=rfl
@[simp] theorem atq{rows:Rows}{id:Nat}{b:Bool}:M3 rows id (.bool b) = .bool b:=rfl
@[simp] theorem aw2{rows:Rows}{id:Nat}:M3 rows id .nil = .nil:=rfl
@[simp] theorem aw3{α:Type}{g:α→List PV}{rows:Rows}{id:Nat}{l:List α}:M3 rows id (aG g l)=aG g l:=rfl
theorem ahQ{n s clk:Nat}{f:Nat→PV}{rows:Rows}(q:PV)(hs:f s = .nil)(hq:q = .sl []):Gh n ⟨f,rows,clk⟩ ⟨put f (some s) q,rows,clk⟩:=by
 rintro w0 S0 G a w ⟨⟨c,rfl,sG,gH,hI,hf,hG⟩,h7,h8⟩
 refine⟨⟨c,rfl,sG,gH,hI,fun t=>?_,hG⟩,h7,h8⟩
 simp only [put]
 split
 ·rename_i ht
  subst ht
  have h1:=hf t
  simp only at h1
  rw [hs]at h1
  subst hq
  simp only [aO]at h1 ⊢
  exact Wk.rep (.inr ⟨rfl,rfl⟩) h1
 ·exact hf t
theorem W.KS{E:Env}{n:Nat}{tl:Nat→Nat}{Q:PX→PS→Prop}{c:Code}{f:Nat→PV}{rows:Rows}{clk:Nat}(s:Nat)(q:PV)(hs:f s = .nil)(hq:q = .sl [])(h:∀K:PS→Prop,(∀σ,W E n tl c Q σ→K σ)→K ⟨put f (some s) q,rows,clk⟩):W E n tl c Q ⟨f,rows,clk⟩:=W.ghost (ahQ q hs hq) (h _ fun _ h=>h)
theorem ahR{c:Cx}{l:List (List PV)}{v:Value}(hr:aV c (.kO l) v):aV c (.sl l) v:=by
 simp only [aV,dS]at hr ⊢
 obtain⟨a,h1,h2,h3⟩:=hr
 exact⟨a,l.length,h1,Nat.le_refl _,h2,h3⟩
theorem ahS{n s clk:Nat}{f:Nat→PV}{rows:Rows}(l:List (List PV))(q:PV)(hs:f s = .kO l)(hq:q = .sl l):Gh n ⟨f,rows,clk⟩ ⟨put f (some s) q,rows,clk⟩:=by
 rintro w0 S0 G a w ⟨⟨c,rfl,sG,gH,hI,hf,hG⟩,h7,h8⟩
 refine⟨⟨c,rfl,sG,gH,hI,fun t=>?_,hG⟩,h7,h8⟩
 simp only [put]
 split
 ·rename_i ht
  subst ht
  have h1:=hf t
  simp only at h1
  rw [hs]at h1
  subst hq
  simp only [aO]at h1 ⊢
  exact ahR h1
 ·exact hf t
theorem W.ayQ{E:Env}{n:Nat}{tl:Nat→Nat}{Q:PX→PS→Prop}{c:Code}{f:Nat→PV}{rows:Rows}{clk:Nat}(s:Nat)(l:List (List PV))(q:PV)(hs:f s = .kO l)(hq:q = .sl l)(h:∀K:PS→Prop,(∀σ,W E n tl c Q σ→K σ)→K ⟨put f (some s) q,rows,clk⟩):W E n tl c Q ⟨f,rows,clk⟩:=W.ghost (ahS l q hs hq) (h _ fun _ h=>h)
def EH(rows:Rows)(id:Nat):Option Row→Option Row
 | some r=>some { r with els:=r.els.map fun e=>e.map (M3 rows id) }
 | none=>none
def G7(rows:Rows)(id:Nat):Rows:=fun j=>if j=id then none else EH rows id (rows j)
@[simp] theorem aw4{rows:Rows}{id j:Nat}:G7 rows id j=if j=id then none else EH rows id (rows j):=rfl
@[simp] theorem akH{rows:Rows}{id v e n:Nat}{els:List (List PV)}:EH rows id (some ⟨v,e,n,els⟩)=some ⟨v,e,n,els.map fun e=>e.map (M3 rows id)⟩:=rfl
@[simp] theorem akI{rows:Rows}{id:Nat}:EH rows id none=none:=rfl
@[simp] theorem aw5{rows:Rows}{id i ver off len:Nat}:M3 rows id (.own i ver off len)=if i=id then fzR (rows i) ver off len else .own i ver off len:=rfl
@[simp] theorem aw6{rows:Rows}{id i ver a j:Nat}:M3 rows id (.ptr i ver a j)=if i=id then fzP (rows i) ver a j else .ptr i ver a j:=rfl
theorem T5{n clk:Nat}{l:List (Nat × PV)}{rows:Rows}(id:Nat)(hp:dG (rows id)):Gh n ⟨fa l,rows,clk⟩ ⟨fa (l.map fun p=>(p.1,KQ rows id p.2)),G7 rows id,clk⟩:=by
 rintro w0 S0 G a w ⟨⟨c,rfl,sG,gH,hI,hf,hG⟩,h7,h8⟩
 have adO:c.rows=rows:=sG
 subst adO
 have NB:=hI.freeze [id]
 have live:∀ {j:Nat} {r':Row},G7 c.rows id j=some r'→j≠id ∧ ∃r,c.rows j=some r∧r' = { r with els:=r.els.map fun e=>e.map (M3 c.rows id) }:=by
  intro j r' h
  simp only [G7]at h
  split at h
  ·cases h
  ·rename_i hj
   cases hr:c.rows j with
   | none=>rw [hr]at h;cases h
   | some r=>rw [hr]at h;simp only [EH,Option.some.injEq]at h;exact⟨hj,r,rfl,h.symm⟩
 have hA:vT (GH c [id]) { GH c [id]with rows:=G7 c.rows id }:=by
  refine⟨fun _ _ h=>h,fun _ _ _=>rfl,fun _ h=>h,fun j r' h=>?_⟩
  obtain⟨hj,r,hr,rfl⟩:=live h
  exact .inr ⟨r,by simp [GH,HQ,hj,hr],rfl,rfl,by simp,rfl⟩
 have hI2:Inv w0 S0 { GH c [id]with rows:=G7 c.rows id }:=by
  refine⟨NB.below,NB.ext,NB.new,NB.lt0,fun j r' h=>?_,fun j r' h=>?_,fun i j r s g hr hs=>?_⟩
  ·obtain⟨hj,r,hr,rfl⟩:=live h
   exact hI.clock j r hr
  ·obtain⟨hj,r,hr,rfl⟩:=live h
   obtain⟨⟨xs,g1,g2,g3⟩,g4,g5,g6⟩:=hI.row j r hr
   obtain⟨_,_,f5,_⟩:=NB.row j r (by simp [GH,HQ,hj,hr])
   refine⟨⟨xs,by rw [List.length_map];exact g1,?_,g3⟩,fun e he=>?_,f5,g6⟩
   ·show bO _ (List.flatten (r.els.map fun e=>e.map (M3 c.rows id))) xs
    rw [←List.map_flatten]
    refine bO.eC (by rw [List.length_map];exact g2.length) fun k p u xA hu=>?_
    rw [List.getElem?_map]at xA
    obtain⟨q,hq,rfl⟩:=Option.map_eq_some_iff.1 xA
    obtain⟨u',Z4,jR⟩:=g2.get hq
    rw [hu]at Z4;cases Z4
    exact aV.vU hA _ _ (KR hI hp jR)
   ·simp only [List.mem_map]at he
    obtain⟨e',xB,rfl⟩:=he
    simpa using g4 e' xB
  ·obtain⟨hi,r1,uJ,rfl⟩:=live hr
   obtain⟨hj,r2,cC,rfl⟩:=live hs
   exact hI.apart i j r1 r2 g uJ cC
 refine⟨⟨{ GH c [id]with rows:=G7 c.rows id },rfl,rfl,gH,hI2,fun s=>?_,fun p hp=>aO.vU hA _ _ (aO.vU (nJ c [id]) _ _ (hG p hp))⟩,h7,h8⟩
 show aO _ (fa (l.map fun p=>(p.1,KQ c.rows id p.2)) s) _
 rw [←adN (g:=KQ c.rows id) H8]
 exact aO.vU hA _ _ (XG hI hp (hf s))
theorem W.KT{E:Env}{n:Nat}{tl:Nat→Nat}{Q:PX→PS→Prop}{c:Code}{l:List (Nat × PV)}{rows:Rows}{clk:Nat}(id:Nat)(hp:dG (rows id))(h:∀K:PS→Prop,(∀σ,W E n tl c Q σ→K σ)→K ⟨fa (l.map fun p=>(p.1,KQ rows id p.2)),G7 rows id,clk⟩):W E n tl c Q ⟨fa l,rows,clk⟩:=W.ghost (T5 id hp) (h _ fun _ h=>h)
end Pm

namespace Pm
open Go
theorem bN(l:List Nat){E:Env}{n:Nat}{tl:Nat→Nat}{c:Code}{Q:PX→PS→Prop}{f:Nat→PV}{rows:Rows}{clk:Nat}{X:Prop}(hX:X)(h:X→aW (Bx.mk (P:=W E n tl c Q)) ⟨fa (l.map fun i=>(i,f i)),rows,clk⟩:=by intro hX;simp;exact hX):aW (Bx.mk (P:=W E n tl c Q)) ⟨f,rows,clk⟩:=W.lx l (h hX)
theorem iM{X G:Prop}(hX:X)(h:X→G:=by intro hX;refine W.sr ?_;simp (disch:=omega) [gw];exact hX):G:=h hX
theorem iQ{X G:Prop}(hX:X)(h:X→G:=by intro hX;refine W.sd ?_;simp (disch:=omega) [gw];exact hX):G:=h hX
theorem bW{P X G:Prop}(hP:P)(hX:X)(h:P→X→G:=by intro hP hX;refine aB hP ?_;simp (disch:=omega) [gw];exact hX):G:=h hP hX
section
variable (l:List Nat) {E:Env} {n:Nat} {tl:Nat→Nat} {c:Code} {Q:PX→PS→Prop} {f:Nat→PV} {rows:Rows} {clk:Nat} {P X G:Prop}
theorem aA(hX:X)(h1:aW (Bx.mk (P:=W E n tl c Q)) ⟨f,rows,clk⟩→G:=by intro hY;refine W.sr ?_;simp (disch:=omega) [gw];exact hY)(h2:X→aW (Bx.mk (P:=W E n tl c Q)) ⟨fa (l.map fun i=>(i,f i)),rows,clk⟩:=by intro hX;simp;exact hX):G:=h1 (W.lx l (h2 hX))
theorem aM(hX:X)(h1:aW (Bx.mk (P:=W E n tl c Q)) ⟨f,rows,clk⟩→G:=by intro hY;refine W.seq ?_;refine W.sr ?_;simp (disch:=omega) [gw];exact hY)(h2:X→aW (Bx.mk (P:=W E n tl c Q)) ⟨fa (l.map fun i=>(i,f i)),rows,clk⟩:=by intro hX;simp;exact hX):G:=h1 (W.lx l (h2 hX))
theorem cB(hX:X)(h1:aW (Bx.mk (P:=W E n tl c Q)) ⟨f,rows,clk⟩→G:=by intro hY;refine W.sr ?_;simp (disch:=omega) [gw];exact hY)(h2:X→aW (Bx.mk (P:=W E n tl c Q)) ⟨fa (l.map fun i=>(i,f i)),rows,clk⟩:=by intro hX;simp;refine W.seq ?_;exact hX):G:=h1 (W.lx l (h2 hX))
theorem aJ(hP:P)(hX:X)(h1:P→aW (Bx.mk (P:=W E n tl c Q)) ⟨f,rows,clk⟩→G:=by intro hP hY;refine W.sr ?_;simp (disch:=omega) [gw];refine aB hP ?_;simp (disch:=omega) [gw];exact hY)(h2:X→aW (Bx.mk (P:=W E n tl c Q)) ⟨fa (l.map fun i=>(i,f i)),rows,clk⟩:=by intro hX;simp;exact hX):G:=h1 hP (W.lx l (h2 hX))
theorem bU(hP:P)(hX:X)(h1:P→aW (Bx.mk (P:=W E n tl c Q)) ⟨f,rows,clk⟩→G:=by intro hP hY;refine aB hP ?_;simp (disch:=omega) [gw];exact hY)(h2:X→aW (Bx.mk (P:=W E n tl c Q)) ⟨fa (l.map fun i=>(i,f i)),rows,clk⟩:=by intro hX;simp;exact hX):G:=h1 hP (W.lx l (h2 hX))
end
theorem bF{X Y G:Prop}(hX:X)(hY:Y)(h:X→Y→G:=by intro hX hY;refine W.cond ⟨_,rfl,?_,?_⟩;exact hX;exact hY):G:=h hX hY
theorem eV{X G:Prop}(hX:X)(h:X→G:=by intro hX;refine W.exit ?_;simp only [pX,if_true,if_false,reduceIte,Nat.reduceEqDiff];exact hX):G:=h hX
theorem b7{G:Prop}(h:G:=by refine W.ret ?_;simp [go]):G:=h
theorem jV{X G:Prop}(hX:X)(h:X→G:=by intro hX;refine W.skip ?_;refine W.seq ?_;refine W.block ?_;exact hX):G:=h hX
end Pm
