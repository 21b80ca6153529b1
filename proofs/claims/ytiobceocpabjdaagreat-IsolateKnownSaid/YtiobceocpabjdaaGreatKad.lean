import Derived.Test.YtiobceocpabjdaaGreatKac
set_option linter.unusedSimpArgs false
set_option linter.unusedVariables false
namespace Pm
open Go Go.RowKit
def emap{α:Type}(g:α→List PV)(l:List α):List (List PV):=l.map g
def aQ{α:Type}(g:α→List PV)(l:List α):PV:=.sl (emap g l)
def nth{α:Type}[Inhabited α](l:List α)(i:Nat):α:=l[i]?.getD default
def Enc{α:Type}(g:α→List PV)(n:Nat):Prop:=∀x,(g x).length=n
def al2{α:Type}(g:α→List PV):Prop:=∀x,(g x).all bU=true
def bK(o:Option Row)(ver:Nat)(K:Row→Prop):Prop:=∃r,o=some r∧r.ver=ver∧K r
@[congr] theorem aaJ{o o':Option Row}{ver:Nat}{K:Row→Prop}(h:o=o'):bK o ver K=bK o' ver K:=by rw [h]
@[simp] theorem abp{r:Row}{ver:Nat}{K:Row→Prop}:bK (some r) ver K=aE (r.ver=ver) (K r):=by simp [bK,aE]
def BT(els:List (List PV))(i:Nat)(K:List PV→Prop):Prop:=∃el,els[i]? = some el∧K el
@[congr] theorem ajH{l l':List (List PV)}{i i':Nat}{K:List PV→Prop}(h:l=l')(hi:i=i'):BT l i K=BT l' i' K:=by rw [h,hi]
@[simp] theorem GW{α:Type}[Inhabited α]{g:α→List PV}{l:List α}{i:Nat}{K:List PV→Prop}:BT (emap g l) i K=aE (i<l.length) (K (g (nth l i))):=by
 simp only [BT,emap,aE,nth]
 apply propext
 constructor
 ·rintro⟨el,h1,h2⟩
  simp at h1
  obtain⟨x,h1,rfl⟩:=h1
  have:=(List.getElem?_eq_some_iff.1 h1).1
  rw [h1]
  exact⟨this,h2⟩
 ·rintro⟨h1,h2⟩
  rw [List.getElem?_eq_getElem h1]at h2
  exact⟨g l[i],by simp [h1],h2⟩
@[simp] theorem al3{e:List PV}{es:List (List PV)}{K:List PV→Prop}:BT (e::es) 0 K=go (K e):=by show _=K e;simp [BT]
@[simp] theorem al4{e:List PV}{es:List (List PV)}{i:Nat}{K:List PV→Prop}:BT (e::es) (i+1) K=BT es i K:=by simp [BT]
def j8{α:Type}(l:List α)(i:Nat):Option α:=l[i]?
@[simp] theorem ajI{α:Type}{x:α}{l:List α}:j8 (x::l) 0=some x:=rfl
@[simp] theorem ajJ{α:Type}{x:α}{l:List α}{n:Nat}:j8 (x::l) (n+1)=j8 l n:=rfl
def eO{α:Type}(o:Option α)(K:α→Prop):Prop:=∃v,o=some v∧K v
@[congr] theorem agp{α:Type}{o o':Option α}{K:α→Prop}(h:o=o'):eO o K=eO o' K:=by rw [h]
@[simp] theorem ajK{α:Type}{x:α}{K:α→Prop}:eO (some x) K=go (K x):=by show _=K x;simp [eO]
def vF(ti:TI)(l:List PV)(j:Nat)(K:PV→Prop):Prop:=if ti.agg=true then aE (j+ti.size≤l.length) (K (.ag ((l.drop j).take ti.size)))else eO (j8 l j) K
@[congr] theorem ajL{t t':TI}{l l':List PV}{j:Nat}{K:PV→Prop}(h1:t=t')(h2:l=l'):vF t l j K=vF t' l' j K:=by rw [h1,h2]
@[simp] theorem ap3{k:IntKind}{l:List PV}{j:Nat}{K:PV→Prop}:vF (.int k) l j K=eO (j8 l j) K:=by simp [vF,TI.agg]
@[simp] theorem al5{l:List PV}{j:Nat}{K:PV→Prop}:vF .bool l j K=eO (j8 l j) K:=by simp [vF,TI.agg]
@[simp] theorem ap4{l:List PV}{j:Nat}{K:PV→Prop}:vF .str l j K=eO (j8 l j) K:=by simp [vF,TI.agg]
@[simp] theorem ajM{e n b:Nat}{z:List PV}{l:List PV}{j:Nat}{K:PV→Prop}:vF (.slice e n b z) l j K=eO (j8 l j) K:=by simp [vF,TI.agg]
@[simp] theorem ap5{e m n:Nat}{z:List PV}{l:List PV}{j:Nat}{K:PV→Prop}:vF (.arr e m n z) l j K=aE (j+z.length≤l.length) (K (.ag ((l.drop j).take z.length))):=by simp [vF,TI.agg,TI.size,TI.zero]
@[simp] theorem al6{l:List PV}{j:Nat}{K:PV→Prop}:vF .xH l j K=eO (j8 l j) K:=by simp [vF,TI.agg]
@[simp] theorem ap6{l:List PV}{j:Nat}{K:PV→Prop}:vF .fnT l j K=eO (j8 l j) K:=by simp [vF,TI.agg]
@[simp] theorem agq{fs:List (Nat × Nat × Bool)}{z:List PV}{l:List PV}{j:Nat}{K:PV→Prop}:vF (.struct fs z) l j K=aE (j+z.length≤l.length) (K (.ag ((l.drop j).take z.length))):=by simp [vF,TI.agg,TI.size,TI.zero]
def jL(E:Env)(t:TypeId)(rows:Rows)(p:PV)(K:PV→Prop):Prop:=
 aE ((E.ty t).known=true) (match p with
 | .rd l=>vF (E.ty t) l 0 K
 | .ptr id ver i j=>bK (rows id) ver fun r=>BT r.els i fun el=>vF (E.ty t) el j K
 | _=>False)
@[congr] theorem abq{E:Env}{t:TypeId}{rows:Rows}{p p':PV}{K:PV→Prop}(h:p=p'):jL E t rows p K=jL E t rows p' K:=by rw [h]
@[simp] theorem ajN{E:Env}{t:TypeId}{rows:Rows}{l:List PV}{K:PV→Prop}:jL E t rows (.rd l) K=aE ((E.ty t).known=true) (vF (E.ty t) l 0 K):=rfl
@[simp] theorem agr{E:Env}{t:TypeId}{rows:Rows}{id ver i j:Nat}{K:PV→Prop}:jL E t rows (.ptr id ver i j) K=aE ((E.ty t).known=true) (bK (rows id) ver fun r=>BT r.els i fun el=>vF (E.ty t) el j K):=rfl
theorem GX{ti:TI}{l:List PV}{j:Nat}{K:PV→Prop}:aT (fun v=>if ti.agg=true then j+ti.size≤l.length∧v = .ag ((l.drop j).take ti.size)else l[j]? = some v) K=vF ti l j K:=by
 simp only [vF,eO]
 split
 ·rw [iM,i1]
 ·rfl
theorem rI{E:Env}{t:TypeId}{rows:Rows}{p:PV}{K:PV→Prop}:aT (fun v=>qK E t rows p v) K=jL E t rows p K:=by
 simp only [qK,jL]
 rw [iM]
 congr 1
 cases p with
 | rd l=>dsimp only;rw [←GX];simp [go]
 | ptr id ver i j =>
  simp only [bK,BT,←GX]
  apply propext;simp only [aT]
  constructor
  ·rintro⟨v,⟨r,h1,h2,el,h3,h4⟩,h5⟩;exact⟨r,h1,h2,el,h3,v,h4,h5⟩
  ·rintro⟨r,h1,h2,el,h3,v,h4,h5⟩;exact⟨v,⟨r,h1,h2,el,h3,h4⟩,h5⟩
 | _=>simp [aT]
def i3(ti:TI)(i:Nat)(x:PV)(K:PV→Prop):Prop:=
 match ti with
 | .struct fs _=>eO (j8 fs i) fun p=>match x with
  | .ag l=>if p.2.2=true then K (.ag ((l.drop p.1).take p.2.1))else eO (j8 l p.1) K
  | _=>False
 | _=>False
@[congr] theorem aaK{t t':TI}{i:Nat}{x x':PV}{K:PV→Prop}(h:t=t')(h2:x=x'):i3 t i x K=i3 t' i x' K:=by rw [h,h2]
def DT(p:Nat × Nat × Bool)(l:List PV)(K:PV→Prop):Prop:=if p.2.2=true then K (.ag ((l.drop p.1).take p.2.1))else eO (j8 l p.1) K
@[simp] theorem ajO{o n:Nat}{l:List PV}{K:PV→Prop}:DT (o,n,true) l K=go (K (.ag ((l.drop o).take n))):=by show _=K _;simp [DT]
@[simp] theorem ags{o n:Nat}{l:List PV}{K:PV→Prop}:DT (o,n,false) l K=eO (j8 l o) K:=by simp [DT]
@[congr] theorem agt{p p':Nat × Nat × Bool}{l l':List PV}{K:PV→Prop}(h:p=p')(h2:l=l'):DT p l K=DT p' l' K:=by rw [h,h2]
@[simp] theorem agu{fs:List (Nat × Nat × Bool)}{z:List PV}{i:Nat}{l:List PV}{K:PV→Prop}:i3 (.struct fs z) i (.ag l) K=eO (j8 fs i) fun p=>DT p l K:=rfl
theorem vG{E:Env}{t:TypeId}{i:Nat}{x:PV}{K:PV→Prop}:aT (fun v=>q9 E t i x v) K=i3 (E.ty t) i x K:=by
 simp only [q9,i3]
 cases E.ty t with
 | struct fs z =>
  simp only [eO]
  apply propext;simp only [aT]
  cases x with
  | ag l =>
   simp only
   constructor
   ·rintro⟨v,⟨o,n,b,h1,h2⟩,h3⟩
    refine⟨_,h1,?_⟩
    simp only
    split at h2
    ·rename_i hb;rw [if_pos hb,←h2];exact h3
    ·rename_i hb;rw [if_neg hb];exact⟨v,h2,h3⟩
   ·rintro⟨⟨o,n,b⟩,h1,h2⟩
    simp only at h2
    split at h2
    ·rename_i hb;exact⟨_,⟨o,n,b,h1,by rw [if_pos hb]⟩,h2⟩
    ·rename_i hb;obtain⟨v,h3,h4⟩:=h2;exact⟨v,⟨o,n,b,h1,by rw [if_neg hb];exact h3⟩,h4⟩
  | _=>simp
 | _=>simp [aT]
def dC(ti:TI)(rows:Rows)(i:Nat)(x:PV)(K:PV→Prop):Prop:=
 match ti with
 | .struct fs _=>eO (j8 fs i) fun p=>match x with
  | .rd l=>aE (p.1≤l.length) (K (.rd (l.drop p.1)))
  | .ptr id ver a j=>bK (rows id) ver fun _=>K (.ptr id ver a (j+p.1))
  | _=>False
 | _=>False
@[congr] theorem OJ{t t':TI}{rows:Rows}{i:Nat}{x x':PV}{K:PV→Prop}(h:t=t')(h2:x=x'):dC t rows i x K=dC t' rows i x' K:=by rw [h,h2]
@[simp] theorem WA{fs:List (Nat × Nat × Bool)}{z:List PV}{rows:Rows}{i:Nat}{l:List PV}{K:PV→Prop}:dC (.struct fs z) rows i (.rd l) K=eO (j8 fs i) fun p=>aE (p.1≤l.length) (K (.rd (l.drop p.1))):=rfl
@[simp] theorem UA{fs:List (Nat × Nat × Bool)}{z:List PV}{rows:Rows}{i id ver a j:Nat}{K:PV→Prop}:dC (.struct fs z) rows i (.ptr id ver a j) K=eO (j8 fs i) fun p=>bK (rows id) ver fun _=>K (.ptr id ver a (j+p.1)):=rfl
theorem nU{E:Env}{t:TypeId}{rows:Rows}{i:Nat}{x:PV}{K:PV→Prop}:aT (fun v=>eK E t rows i x v) K=dC (E.ty t) rows i x K:=by
 simp only [eK,dC]
 cases E.ty t with
 | struct fs z =>
  simp only [eO]
  apply propext;simp only [aT]
  cases x with
  | rd l =>
   simp only [aE]
   constructor
   ·rintro⟨v,⟨o,n,b,h1,h2,rfl⟩,h3⟩;exact⟨_,h1,h2,h3⟩
   ·rintro⟨⟨o,n,b⟩,h1,h2,h3⟩;exact⟨_,⟨o,n,b,h1,h2,rfl⟩,h3⟩
  | ptr id ver a j =>
   simp only [bK]
   constructor
   ·rintro⟨v,⟨o,n,b,h1,⟨r,h2,h3⟩,rfl⟩,h4⟩;exact⟨_,h1,r,h2,h3,h4⟩
   ·rintro⟨⟨o,n,b⟩,h1,r,h2,h3,h4⟩;exact⟨_,⟨o,n,b,h1,⟨r,h2,h3⟩,rfl⟩,h4⟩
  | _=>simp
 | _=>simp [aT]
def bB(n:Nat)(l:List (List PV)):Prop:=∀e∈l,e.length=n
@[simp] theorem cJ{α:Type}{g:α→List PV}{n:Nat}{l:List α}:(Enc g n)→bB n (emap g l)=True:=by
 intro h
 simp only [bB,emap,List.mem_map,eq_iff_iff,iff_true]
 rintro e ⟨x,_,rfl⟩
 exact h x
@[simp] theorem agv{n:Nat}:bB n []=True:=by simp [bB]
@[simp] theorem ad4{n:Nat}{e:List PV}{l:List (List PV)}:bB n (e::l)=(e.length=n∧bB n l):=by simp [bB]
def bW(ti:TI)(rows:Rows)(x ix:PV)(K:PV→Prop):Prop:=
 match ti,ix with
 | .slice _ n _ _, .int _ k=>aE (0≤k) (match x with
  | .sl l=>aE (bB n l) (BT l k.toNat fun el=>K (.rd el))
  | .gU l=>aE (bB n l) (BT l k.toNat fun el=>K (.rd el))
  | .own id ver off len=>bK (rows id) ver fun r=>aE (r.size=n∧k.toNat<len) (K (.ptr id ver (off+k.toNat) 0))
  | _=>False)
 | .arr _ m n _, .int _ k=>aE (0≤k∧k.toNat<m) (match x with
  | .rd l=>aE (k.toNat*n≤l.length) (K (.rd (l.drop (k.toNat*n))))
  | .ptr id ver a j=>bK (rows id) ver fun _=>K (.ptr id ver a (j+k.toNat*n))
  | _=>False)
 | _,_=>False
@[congr] theorem OK{t t':TI}{rows:Rows}{x x' y y':PV}{K:PV→Prop}(h:t=t')(h2:x=x')(h3:y=y'):bW t rows x y K=bW t' rows x' y' K:=by rw [h,h2,h3]
section
variable {α:Type} [Inhabited α] {g:α→List PV} {l:List α} {e n b:Nat} {z:List PV} {rows:Rows} {kk:IntKind} {k:Int} {K:PV→Prop} {els:List (List PV)} {id ver off len:Nat}
@[simp] theorem UB:bW (.slice e n b z) rows (aQ g l) (.int kk k) K=aE (0≤k∧k.toNat<l.length) (aE (bB n (emap g l)) (K (.rd (g (nth l k.toNat))))):=by
 simp only [bW,aQ,GW,aE,and_assoc]
 apply propext
 constructor
 ·rintro⟨h1,h2,h3,h4⟩;exact⟨h1,h3,h2,h4⟩
 ·rintro⟨h1,h2,h3,h4⟩;exact⟨h1,h3,h2,h4⟩
@[simp] theorem WB:bW (.slice e n b z) rows (.sl els) (.int kk k) K=aE (0≤k) (aE (bB n els) (BT els k.toNat fun el=>K (.rd el))):=rfl
@[simp] theorem UC:bW (.slice e n b z) rows (.gU els) (.int kk k) K=aE (0≤k) (aE (bB n els) (BT els k.toNat fun el=>K (.rd el))):=rfl
@[simp] theorem UD{m:Nat}{l:List PV}:bW (.arr e m n z) rows (.rd l) (.int kk k) K=aE (0≤k∧k.toNat<m) (aE (k.toNat*n≤l.length) (K (.rd (l.drop (k.toNat*n))))):=rfl
@[simp] theorem RN{m a j:Nat}:bW (.arr e m n z) rows (.ptr id ver a j) (.int kk k) K=aE (0≤k∧k.toNat<m) (bK (rows id) ver fun _=>K (.ptr id ver a (j+k.toNat*n))):=rfl
@[simp] theorem UE:bW (.slice e n b z) rows (.own id ver off len) (.int kk k) K=aE (0≤k) (bK (rows id) ver fun r=>aE (r.size=n∧k.toNat<len) (K (.ptr id ver (off+k.toNat) 0))):=rfl
end
theorem nV{E:Env}{t:TypeId}{rows:Rows}{x ix:PV}{K:PV→Prop}:aT (fun v=>eM E t rows x ix v) K=bW (E.ty t) rows x ix K:=by
 simp only [eM,bW]
 cases E.ty t with
 | slice e n b z =>
  cases ix with
  | int kk k =>
   simp only
   rw [iM]
   congr 1
   cases x with
   | sl l =>
    simp only [aE,BT,bB]
    apply propext;simp only [aT]
    constructor
    ·rintro⟨v,⟨el,h1,h2,rfl⟩,h4⟩;exact⟨h2,el,h1,h4⟩
    ·rintro⟨h2,el,h1,h4⟩;exact⟨_,⟨el,h1,h2,rfl⟩,h4⟩
   | gU l =>
    simp only [aE,BT,bB]
    apply propext;simp only [aT]
    constructor
    ·rintro⟨v,⟨el,h1,h2,rfl⟩,h4⟩;exact⟨h2,el,h1,h4⟩
    ·rintro⟨h2,el,h1,h4⟩;exact⟨_,⟨el,h1,h2,rfl⟩,h4⟩
   | own id ver off len =>
    simp only [aE,bK]
    apply propext;simp only [aT]
    constructor
    ·rintro⟨v,⟨r,h1,h2,h3,h4,rfl⟩,h5⟩;exact⟨r,h1,h2,⟨h3,h4⟩,h5⟩
    ·rintro⟨r,h1,h2,⟨h3,h4⟩,h5⟩;exact⟨_,⟨r,h1,h2,h3,h4,rfl⟩,h5⟩
   | _=>simp [aT]
  | _=>simp [aT]
 | arr e m n z =>
  cases ix with
  | int kk k =>
   simp only
   rw [iM]
   congr 1
   cases x with
   | rd l =>
    simp only
    rw [iM,i1]
   | ptr id ver a j =>
    simp only [bK]
    apply propext;simp only [aT]
    constructor
    ·rintro⟨v,⟨⟨r,h1,h2⟩,rfl⟩,h3⟩;exact⟨r,h1,h2,h3⟩
    ·rintro⟨r,h1,h2,h3⟩;exact⟨_,⟨⟨r,h1,h2⟩,rfl⟩,h3⟩
   | _=>simp [aT]
  | _=>simp [aT]
 | _=>simp [aT]
def vH(d:Nat)(o:Option PV)(K:Nat→Prop):Prop:=
 match o with
 | none=>K d
 | some (.int _ k)=>aE (0≤k) (K k.toNat)
 | some _=>False
@[congr] theorem ajP{d d':Nat}{o o':Option PV}{K:Nat→Prop}(h:d=d')(h2:o=o'):vH d o K=vH d' o' K:=by rw [h,h2]
@[simp] theorem al7{d:Nat}{K:Nat→Prop}:vH d none K=go (K d):=rfl
@[simp] theorem al8{d:Nat}{kk:IntKind}{k:Int}{K:Nat→Prop}:vH d (some (.int kk k)) K=aE (0≤k) (K k.toNat):=rfl
theorem LO{d:Nat}{o:Option PV}{K:Nat→Prop}:vH d o K ↔ ∃n,sA d o n∧K n:=by
 cases o with
 | none=>simp [vH,sA]
 | some p =>
  cases p with
  | int kk k =>
   simp only [vH,sA,aE]
   constructor
   ·rintro⟨h1,h2⟩;exact⟨_,⟨h1,rfl⟩,h2⟩
   ·rintro⟨n,⟨h1,rfl⟩,h2⟩;exact⟨h1,h2⟩
  | _=>simp [vH,sA]
def RO{α:Type}(mk mkx:List α→PV)(n:Nat)(l:List α)(ok:Prop)(lo hi mx:Option PV)(K:PV→Prop):Prop:=
 vH 0 lo fun a=>vH l.length hi fun b=>aE (a≤b∧b≤l.length) (aE ok (match mx with
  | none=>K (mk ((l.take b).drop a))
  | some m=>vH 0 (some m) fun c=>aE (b=c∧hi.isSome=true) (K (mkx ((l.take b).drop a)))))
def eS(ti:TI)(rows:Rows)(x:PV)(lo hi mx:Option PV)(K:PV→Prop):Prop:=
 match ti with
 | .slice _ n _ _ =>
  match x with
  | .nil=>vH 0 lo fun a=>vH 0 hi fun b=>aE (a=0∧b=0∧mx.isNone=true) (K .nil)
  | .sl l=>RO .sl .gU n l (bB n l) lo hi mx K
  | .gU l=>RO .sl .gU n l (bB n l) lo hi mx K
  | .own id ver off len=>bK (rows id) ver fun r=>aE (r.size=n) (vH 0 lo fun a=>vH len hi fun b=>aE (a≤b∧b≤len∧mx.isNone=true) (K (.own id ver (off+a) (b-a))))
  | _=>False
 | _=>False
@[congr] theorem aaL{t t':TI}{rows:Rows}{x x':PV}{lo lo' hi kD mx mx':Option PV}{K:PV→Prop}(h:t=t')(h2:x=x')(h3:lo=lo')(h4:hi=kD)(h5:mx=mx'):eS t rows x lo hi mx K=eS t' rows x' lo' kD mx' K:=by rw [h,h2,h3,h4,h5]
section
variable {α:Type} {g:α→List PV} {l:List α} {e n b:Nat} {z:List PV} {rows:Rows} {lo hi mx:Option PV} {K:PV→Prop} {els:List (List PV)} {id ver off len:Nat}
theorem GY{a b:Nat}:((emap g l).take b).drop a=emap g ((l.take b).drop a):=by simp [emap]
@[simp] theorem ad5:eS (.slice e n b z) rows (aQ g l) lo hi none K=vH 0 lo fun a=>vH l.length hi fun b=>aE (a≤b∧b≤l.length) (aE (bB n (emap g l)) (K (aQ g ((l.take b).drop a)))):=by
 simp only [eS,aQ,RO,GY]
 simp [emap]
theorem DU{m:PV}:eS (.slice e n b z) rows (aQ g l) lo hi (some m) K=vH 0 lo fun a=>vH l.length hi fun b=>aE (a≤b∧b≤l.length) (aE (bB n (emap g l)) (vH 0 (some m) fun c=>aE (b=c∧hi.isSome=true) (K (.gU (emap g ((l.take b).drop a)))))):=by
 simp only [eS,aQ,RO,GY]
 simp [emap]
@[simp] theorem ad6:eS (.slice e n b z) rows .nil lo hi mx K=vH 0 lo fun a=>vH 0 hi fun b=>aE (a=0∧b=0∧mx.isNone=true) (K .nil):=rfl
@[simp] theorem ad7:eS (.slice e n b z) rows (.own id ver off len) lo hi mx K=bK (rows id) ver fun r=>aE (r.size=n) (vH 0 lo fun a=>vH len hi fun b=>aE (a≤b∧b≤len∧mx.isNone=true) (K (.own id ver (off+a) (b-a)))):=rfl
end
theorem OL{l:List (List PV)}{n:Nat}{lo hi mx:Option PV}{K:PV→Prop}:(∃v,(∃a b,sA 0 lo a∧sA l.length hi b∧a≤b∧b≤l.length∧(∀e∈l,e.length=n)∧J5 l a b hi mx v)∧K v)↔RO .sl .gU n l (bB n l) lo hi mx K:=by
 simp only [RO,LO,aE,bB,J5]
 constructor
 ·rintro⟨v,⟨a,b,h1,h2,h3,h4,h5,h6⟩,h7⟩
  refine⟨a,h1,b,h2,⟨h3,h4⟩,h5,?_⟩
  cases mx with
  | none=>simp only at h6 ⊢;rw [←h6];exact h7
  | some m=>obtain⟨c,q1,q2,q3,rfl⟩:=h6;exact⟨c,q1,⟨q2,q3⟩,h7⟩
 ·rintro⟨a,h1,b,h2,⟨h3,h4⟩,h5,h6⟩
  cases mx with
  | none=>exact⟨_,⟨a,b,h1,h2,h3,h4,h5,rfl⟩,h6⟩
  | some m=>obtain⟨c,q1,⟨q2,q3⟩,h7⟩:=h6;exact⟨_,⟨a,b,h1,h2,h3,h4,h5,c,q1,q2,q3,rfl⟩,h7⟩
theorem vI{E:Env}{t:TypeId}{rows:Rows}{x:PV}{lo hi mx:Option PV}{K:PV→Prop}:aT (fun v=>lY E t rows x lo hi mx v) K=eS (E.ty t) rows x lo hi mx K:=by
 simp only [lY,eS]
 cases E.ty t with
 | slice e n b z =>
  cases x with
  | sl l=>exact propext OL
  | gU l=>exact propext OL
  | nil =>
   simp only [LO,aE]
   apply propext;simp only [aT]
   constructor
   ·rintro⟨v,⟨a,b,h1,h2,h3,h4,h5,rfl⟩,h6⟩;exact⟨a,h1,b,h2,⟨h3,h4,h5⟩,h6⟩
   ·rintro⟨a,h1,b,h2,⟨h3,h4,h5⟩,h6⟩;exact⟨_,⟨a,b,h1,h2,h3,h4,h5,rfl⟩,h6⟩
  | own id ver off len =>
   simp only [LO,aE,bK]
   apply propext;simp only [aT]
   constructor
   ·rintro⟨v,⟨r,q1,q2,q3,a,b,h1,h2,h3,h4,h5,rfl⟩,h6⟩;exact⟨r,q1,q2,q3,a,h1,b,h2,⟨h3,h4,h5⟩,h6⟩
   ·rintro⟨r,q1,q2,q3,a,h1,b,h2,⟨h3,h4,h5⟩,h6⟩;exact⟨_,⟨r,q1,q2,q3,a,b,h1,h2,h3,h4,h5,rfl⟩,h6⟩
  | _=>simp [aT]
 | _=>simp [aT]
def qV(rows:Rows)(x:PV)(K:PV→Prop):Prop:=
 match x with
 | .rd l=>K (.rd l)
 | .ptr id ver i j=>bK (rows id) ver fun _=>K (.ptr id ver i j)
 | _=>False
@[congr] theorem ad8{rows:Rows}{x x':PV}{K:PV→Prop}(h:x=x'):qV rows x K=qV rows x' K:=by rw [h]
@[simp] theorem al9{rows:Rows}{l:List PV}{K:PV→Prop}:qV rows (.rd l) K=go (K (.rd l)):=rfl
@[simp] theorem ajQ{rows:Rows}{id ver i j:Nat}{K:PV→Prop}:qV rows (.ptr id ver i j) K=bK (rows id) ver fun _=>K (.ptr id ver i j):=rfl
theorem BU{rows:Rows}{x:PV}{K:PV→Prop}:aT (fun v=>AM rows x v) K=qV rows x K:=by
 simp only [AM,qV]
 cases x with
 | rd l=>dsimp only;rw [i1]
 | ptr id ver i j =>
  simp only [bK]
  apply propext;simp only [aT]
  constructor
  ·rintro⟨v,⟨⟨r,h1,h2⟩,rfl⟩,h3⟩;exact⟨r,h1,h2,h3⟩
  ·rintro⟨r,h1,h2,h3⟩;exact⟨_,⟨⟨r,h1,h2⟩,rfl⟩,h3⟩
 | _=>simp [aT]
def kB(ti:TI)(rows:Rows)(x:PV)(K:PV→Prop):Prop:=
 match ti with
 | .slice _ _ _ _=>match x with
  | .nil=>K (.int .i64 0)
  | .sl l=>K (.int .i64 l.length)
  | .gU l=>K (.int .i64 l.length)
  | .own id ver _ len=>bK (rows id) ver fun _=>K (.int .i64 len)
  | _=>False
 | _=>False
@[congr] theorem ad9{t t':TI}{rows:Rows}{x x':PV}{K:PV→Prop}(h:t=t')(h2:x=x'):kB t rows x K=kB t' rows x' K:=by rw [h,h2]
section
variable {α:Type} {g:α→List PV} {l:List α} {e n b:Nat} {z:List PV} {rows:Rows} {K:PV→Prop} {els:List (List PV)} {id ver off len:Nat}
@[simp] theorem ajR:kB (.slice e n b z) rows (aQ g l) K=go (K (.int .i64 l.length)):=by show _=K _;simp [kB,aQ,emap]
@[simp] theorem ajS:kB (.slice e n b z) rows .nil K=go (K (.int .i64 0)):=rfl
@[simp] theorem ama:kB (.slice e n b z) rows (.sl els) K=go (K (.int .i64 els.length)):=rfl
@[simp] theorem ajT:kB (.slice e n b z) rows (.gU els) K=go (K (.int .i64 els.length)):=rfl
@[simp] theorem ajU:kB (.slice e n b z) rows (.own id ver off len) K=bK (rows id) ver fun _=>K (.int .i64 len):=rfl
end
theorem BV{ti:TI}{rows:Rows}{x:PV}{K:PV→Prop}:aT (fun v=>uZ ti rows x v) K=kB ti rows x K:=by
 simp only [uZ,kB]
 cases ti with
 | slice e n b z =>
  apply propext;simp only [aT,QQ]
  cases x with
  | own id ver off len =>
   simp only [bK]
   constructor
   ·rintro⟨v,⟨n,⟨⟨r,h1,h2⟩,rfl⟩,rfl⟩,h4⟩;exact⟨r,h1,h2,h4⟩
   ·rintro⟨r,h1,h2,h4⟩;exact⟨_,⟨_,⟨⟨r,h1,h2⟩,rfl⟩,rfl⟩,h4⟩
  | _=>simp
 | _=>simp [aT]
def iN(els:List (List PV))(i j:Nat)(l:List PV):List (List PV):=els.set i (((els[i]?).getD []).take j++l++((els[i]?).getD []).drop (j+l.length))
def sP(els:List (List PV))(i n:Nat):Prop:=∃el,els[i]? = some el∧n≤el.length
def fW(rows:Rows)(l:List PV):Prop:=∀q∈l,gR rows q
@[simp] theorem agw{rows:Rows}:fW rows []=True:=by simp [fW]
@[simp] theorem aea{rows:Rows}{p:PV}{l:List PV}:fW rows (p::l)=(gR rows p∧fW rows l):=by simp [fW]
@[simp] theorem agx{α:Type}[Inhabited α]{g:α→List PV}{l:List α}{i n:Nat}:sP (emap g l) i n=(i<l.length∧n≤(g (nth l i)).length):=by
 exact GW (g:=g) (l:=l) (i:=i) (K:=fun el=>n≤el.length)
def i4(E:Env)(t:TypeId)(rows:Rows)(p x:PV)(K:Nat→Row→Prop):Prop:=
 aE ((E.ty t).known=true) (match p with
 | .ptr id ver i j=>bK (rows id) ver fun r=>eO (bS x) fun l=>aE (sP r.els i (j+l.length)∧fW rows l∧l.length=(E.ty t).size) (K id ⟨ver,r.e,r.size,iN r.els i j l⟩)
 | _=>False)
@[congr] theorem aaM{E:Env}{t:TypeId}{rows:Rows}{p p' x x':PV}{K:Nat→Row→Prop}(h1:p=p')(h2:x=x'):i4 E t rows p x K=i4 E t rows p' x' K:=by rw [h1,h2]
@[simp] theorem aeb{E:Env}{t:TypeId}{rows:Rows}{id ver i j:Nat}{x:PV}{K:Nat→Row→Prop}:i4 E t rows (.ptr id ver i j) x K=aE ((E.ty t).known=true) (bK (rows id) ver fun r=>eO (bS x) fun l=>aE (sP r.els i (j+l.length)∧fW rows l∧l.length=(E.ty t).size) (K id ⟨ver,r.e,r.size,iN r.els i j l⟩)):=rfl
theorem BW{E:Env}{t:TypeId}{rows:Rows}{p x:PV}{K:Nat→Row→Prop}:(∃id r,oI E t rows p x .undef (some (id,r))∧K id r)=i4 E t rows p x K:=by
 simp only [oI,i4,aE,bK,eO,sP,fW]
 apply propext
 constructor
 ·rintro⟨id,r,⟨h1,_,h2⟩,h3⟩
  refine⟨h1,?_⟩
  split at h2
  ·obtain⟨r0,q1,q2,el,q3,l,q4,q5,q6,q7,q8⟩:=h2
   simp only [Option.some.injEq,Prod.mk.injEq]at q8
   obtain⟨rfl,rfl⟩:=q8
   refine⟨r0,q1,q2,l,q4,⟨⟨el,q3,q7⟩,q5,q6⟩,?_⟩
   simp only [iN,q3,Option.getD_some]
   rw [q2]at h3
   exact h3
  ·exact h2.elim
 ·rintro⟨h1,h2⟩
  split at h2
  ·obtain⟨r0,q1,q2,l,q4,⟨⟨el,q3,q7⟩,q5,q6⟩,h3⟩:=h2
   simp only [iN,q3,Option.getD_some]at h3
   refine⟨_,_,⟨h1,trivial,r0,q1,q2,el,q3,l,q4,q5,q6,q7,rfl⟩,?_⟩
   rw [←q2]at h3
   exact h3
  ·exact h2.elim
def i5(rows:Rows)(y:PV)(K:List (List PV)→Prop):Prop:=
 match y with
 | .nil=>K []
 | .sl k=>K k
 | .gU k=>K k
 | .own id ver off len=>bK (rows id) ver fun r=>K ((r.els.drop off).take len)
 | _=>False
@[congr] theorem aec{rows:Rows}{y y':PV}{K:List (List PV)→Prop}(h:y=y'):i5 rows y K=i5 rows y' K:=by rw [h]
@[simp] theorem ajV{rows:Rows}{K:List (List PV)→Prop}:i5 rows .nil K=go (K []):=rfl
@[simp] theorem amb{rows:Rows}{l:List (List PV)}{K:List (List PV)→Prop}:i5 rows (.sl l) K=go (K l):=rfl
@[simp] theorem ajW{α:Type}{g:α→List PV}{rows:Rows}{l:List α}{K:List (List PV)→Prop}:i5 rows (aQ g l) K=go (K (emap g l)):=rfl
@[simp] theorem ajX{rows:Rows}{l:List (List PV)}{K:List (List PV)→Prop}:i5 rows (.gU l) K=go (K l):=rfl
@[simp] theorem ajY{rows:Rows}{id ver off len:Nat}{K:List (List PV)→Prop}:i5 rows (.own id ver off len) K=bK (rows id) ver fun r=>K ((r.els.drop off).take len):=rfl
theorem OM{rows:Rows}{y:PV}{K:List (List PV)→Prop}:(∃l,qG rows y l∧K l)=i5 rows y K:=by
 simp only [qG,i5]
 apply propext
 cases y with
 | own id ver off len =>
  simp only [bK]
  constructor
  ·rintro⟨l,⟨r,h1,h2,rfl⟩,h3⟩;exact⟨r,h1,h2,h3⟩
  ·rintro⟨r,h1,h2,h3⟩;exact⟨_,⟨r,h1,h2,rfl⟩,h3⟩
 | _=>simp
def gH(c:Prop)(len:Nat)(els:List (List PV))(K:List (List PV)→Prop):Prop:=(c∧K els)∨(¬c∧len≤els.length∧K (els.take len))
@[congr] theorem aaN{c c':Prop}{len amc:Nat}{els wH:List (List PV)}{K:List (List PV)→Prop}(h:c=c')(h1:len=amc)(h2:els=wH):gH c len els K=gH c' amc wH K:=by rw [h,h1,h2]
theorem DV{len:Nat}{els:List (List PV)}{K:List (List PV)→Prop}:gH True len els K=K els:=by simp [gH]
theorem ON{len:Nat}{els:List (List PV)}{K:List (List PV)→Prop}:gH (len=els.length) len els K=(len≤els.length∧K (els.take len)):=by
 apply propext
 constructor
 ·rintro(⟨h,hK⟩ | ⟨_,h,hK⟩)
  ·exact⟨by omega,by rw [List.take_of_length_le (by omega)];exact hK⟩
  ·exact⟨h,hK⟩
 ·rintro⟨h,hK⟩
  by_cases hc:len=els.length
  ·exact .inl ⟨hc,by rw [List.take_of_length_le (by omega)]at hK;exact hK⟩
  ·exact .inr ⟨hc,h,hK⟩
theorem ar7{c:Prop}{len:Nat}{els:List (List PV)}{K:List (List PV)→Prop}(hc:c→len=els.length)(hl:len≤els.length)(hK:go (K (els.take len))):gH c len els K:=by
 by_cases h:c
 ·exact .inl ⟨h,by rw [List.take_of_length_le (by rw [hc h];omega)]at hK;exact hK⟩
 ·exact .inr ⟨h,hl,hK⟩
def oO(t:TI)(rows:Rows)(x y:PV)(clk d:Nat)(K:PV→Rows→Nat→Prop):Prop:=
 match t with
 | .slice e n b _=>i5 rows y fun l=>aE (bB n l) (match x with
  | .nil=>aE (l.length≤room∧l.length*b≤room) (K (.own d clk 0 l.length) (dH rows d (some ⟨clk,e,n,l⟩)) (clk+1))
  | .own id ver off len=>bK (rows id) ver fun r=>aE (off=0∧r.e=e∧r.size=n) (gH (len=r.els.length) len r.els fun els=>aE (len+l.length≤room∧(len+l.length)*b≤room) (K (.own id clk 0 (len+l.length)) (dH rows id (some ⟨clk,e,n,els++l⟩)) (clk+1)))
  | .gU l0=>aE (bB n l0 ∧ ∀e∈l,∀p∈e,bU p=true) (aE (l0.length+l.length≤room∧(l0.length+l.length)*b≤room) (K (.sl (l0++l)) rows clk))
  | _=>False)
 | _=>False
@[congr] theorem aed{t t':TI}{rows:Rows}{x x' y y':PV}{clk d:Nat}{K:PV→Rows→Nat→Prop}(h1:t=t')(h3:x=x')(h4:y=y') :
  oO t rows x y clk d K=oO t' rows x' y' clk d K:=by rw [h1,h3,h4]
section
variable {e n b clk d id ver off len:Nat} {z:List PV} {rows:Rows} {y:PV} {K:PV→Rows→Nat→Prop} {l0:List (List PV)}
@[simp] theorem ajZ:oO (.slice e n b z) rows .nil y clk d K=i5 rows y fun l=>aE (bB n l) (aE (l.length≤room∧l.length*b≤room) (K (.own d clk 0 l.length) (dH rows d (some ⟨clk,e,n,l⟩)) (clk+1))):=rfl
@[simp] theorem aj0:oO (.slice e n b z) rows (.own id ver off len) y clk d K=i5 rows y fun l=>aE (bB n l) (bK (rows id) ver fun r=>aE (off=0∧r.e=e∧r.size=n) (gH (len=r.els.length) len r.els fun els=>aE (len+l.length≤room∧(len+l.length)*b≤room) (K (.own id clk 0 (len+l.length)) (dH rows id (some ⟨clk,e,n,els++l⟩)) (clk+1)))):=rfl
@[simp] theorem aj1:oO (.slice e n b z) rows (.gU l0) y clk d K=i5 rows y fun l=>aE (bB n l) (aE (bB n l0 ∧ ∀e∈l,∀p∈e,bU p=true) (aE (l0.length+l.length≤room∧(l0.length+l.length)*b≤room) (K (.sl (l0++l)) rows clk))):=rfl
end
theorem abr{t:TI}{rows:Rows}{x y:PV}{clk d:Nat}{K:PV→Rows→Nat→Prop}:RF t rows x y clk d K=oO t rows x y clk d K:=by
 unfold RF oO
 cases t with
 | slice e n b z =>
  dsimp only
  rw [←OM]
  congr 1;funext l;congr 1
  simp only [aE,bB]
  congr 1
  cases x with
  | own id ver off len =>
   simp only [bK,ON]
   apply propext
   constructor
   ·rintro⟨r,h1,h2,h3,h4,h5,h6,h7⟩;exact⟨r,h1,h2,⟨h3,h5,h6⟩,h4,h7⟩
   ·rintro⟨r,h1,h2,⟨h3,h5,h6⟩,h4,h7⟩;exact⟨r,h1,h2,h3,h4,h5,h6,h7⟩
  | gU l0=>simp only [bB,and_assoc]
  | _=>rfl
 | _=>rfl
def fzR(o:Option Row)(ver off len:Nat):PV:=
 match o with
 | some r=>if r.ver=ver then .sl ((r.els.drop off).take len)else .undef
 | none => .undef
@[simp] theorem ar8{rows:Rows}{id ver off len:Nat}:fz rows (.own id ver off len)=fzR (rows id) ver off len:=rfl
@[simp] theorem amd{α:Type}{g:α→List PV}{l:List α}{ver e n off len:Nat}:fzR (some ⟨ver,e,n,emap g l⟩) ver off len=aQ g ((l.drop off).take len):=by simp [fzR,aQ,emap]
@[simp] theorem ar9{rows:Rows}:fz rows .nil = .sl []:=rfl
@[simp] theorem asa{rows:Rows}{l:List (List PV)}:fz rows (.gU l) = .sl l:=rfl
@[simp] theorem auG{rows:Rows}{l:List (List PV)}:fz rows (.sl l) = .sl l:=rfl
@[simp] theorem asb{α:Type}{g:α→List PV}{rows:Rows}{l:List α}:fz rows (aQ g l)=aQ g l:=rfl
@[simp] theorem asc{rows:Rows}{k:IntKind}{n:Int}:fz rows (.int k n) = .int k n:=rfl
@[simp] theorem ap7{rows:Rows}{b:Bool}:fz rows (.bool b) = .bool b:=rfl
@[simp] theorem auH{rows:Rows}{f:FuncId}{l:List PV}:fz rows (.fn f l) = .fn f l:=rfl
@[simp] theorem asd{rows:Rows}{id ver off len:Nat}:pz rows (.own id ver off len)=fzR (rows id) ver off len:=rfl
@[simp] theorem ase{rows:Rows}:pz rows .nil = .sl []:=rfl
@[simp] theorem asf{rows:Rows}{l:List (List PV)}:pz rows (.gU l) = .sl l:=rfl
@[simp] theorem auI{rows:Rows}{l:List (List PV)}:pz rows (.sl l) = .sl l:=rfl
@[simp] theorem asg{α:Type}{g:α→List PV}{rows:Rows}{l:List α}:pz rows (aQ g l)=aQ g l:=rfl
@[simp] theorem ash{rows:Rows}{k:IntKind}{n:Int}:pz rows (.int k n) = .int k n:=rfl
@[simp] theorem ap8{rows:Rows}{b:Bool}:pz rows (.bool b) = .bool b:=rfl
@[simp] theorem auJ{rows:Rows}{f:FuncId}{l:List PV}:pz rows (.fn f l) = .fn f l:=rfl
@[simp] theorem auK{rows:Rows}{l:List PV}:pz rows (.ag l) = .ag (l.map (fz rows)):=rfl
@[simp] theorem ame{α:Type}{g:α→List PV}{l:List α}:fA (aQ g l)=true:=rfl
@[simp] theorem aj3{α:Type}{g:α→List PV}{l:List α}:bU (aQ g l)=true:=rfl
@[simp] theorem ap9{α:Type}{g:α→List PV}{l:List α}:aU (aQ g l) = []:=rfl
@[simp] theorem amf{α:Type}{g:α→List PV}{l:List α}:dG (aQ g l) = []:=rfl
@[simp] theorem aqa{l:List (List PV)}:dG (.sl l) = []:=rfl
@[simp] theorem amg{l:List (List PV)}:dG (.gU l) = []:=rfl
@[simp] theorem amh{k:IntKind}{n:Int}:dG (.int k n) = []:=rfl
@[simp] theorem aj4{b:Bool}:dG (.bool b) = []:=rfl
@[simp] theorem aqb{f:FuncId}{l:List PV}:dG (.fn f l) = []:=rfl
@[simp] theorem ami:dG .nil = []:=rfl
@[simp] theorem amj{id ver off len:Nat}:dG (.own id ver off len) = [id]:=rfl
@[simp] theorem aqc{l:List PV}:dG (.ag l)=l.flatMap aU:=rfl
@[simp] theorem amk{α:Type}{g:α→List PV}{rows:Rows}{l:List α}:gR rows (aQ g l)=True:=rfl
@[simp] theorem agy{α:Type}{g:α→List PV}{l:List α}:bS (aQ g l)=some [aQ g l]:=rfl
@[simp] theorem agz{α:Type}{g:α→List PV}{l:List α}:eF (aQ g l)=some [aQ g l]:=rfl
def cK(o:Option Row):Prop:=∀r,o=some r → ∀e∈r.els,∀p∈e,bU p=true
@[simp] theorem abt{rows:Rows}:dS rows []=True:=by simp [dS]
@[simp] theorem aaO{rows:Rows}{id:Nat}{ids:List Nat}:dS rows (id::ids)=(cK (rows id)∧dS rows ids):=by simp [dS,cK]
@[simp] theorem abu:cK none=True:=by simp [cK]
@[simp] theorem cC{α:Type}{g:α→List PV}{l:List α}{ver e n:Nat}(h:al2 g):cK (some ⟨ver,e,n,emap g l⟩)=True:=by
 simp only [cK,emap,Option.some.injEq,eq_iff_iff,iff_true]
 rintro r rfl e he p hp
 simp at he
 obtain⟨x,_,rfl⟩:=he
 exact List.all_eq_true.1 (h x) p hp
@[simp] theorem aqd{rows:Rows}:AN rows []=rows:=by funext j;simp [AN]
@[simp] theorem asi{rows:Rows}{ids:List Nat}{j:Nat}:AN rows ids j=if j∈ids then none else rows j:=rfl
def kP(fs:List (Nat × Nat × Bool)):List (Nat × PV)→List PV→(List PV→Prop)→Prop
 | [],z,K=>K z
 | (i,p)::ps,z,K=>eO (j8 fs i) fun q=>eO (eF p) fun l=>aE (l.length=q.2.1∧q.1+q.2.1≤z.length) (kP fs ps (z.take q.1++l++z.drop (q.1+q.2.1)) K)
@[congr] theorem aee{fs:List (Nat × Nat × Bool)}{ps OO:List (Nat × PV)}{z z':List PV}{K:List PV→Prop}(h:ps=OO)(h2:z=z'):kP fs ps z K=kP fs OO z' K:=by rw [h,h2]
@[simp] theorem aj5{fs:List (Nat × Nat × Bool)}{z:List PV}{K:List PV→Prop}:kP fs [] z K=go (K z):=rfl
@[simp] theorem agA{fs:List (Nat × Nat × Bool)}{i:Nat}{p:PV}{ps:List (Nat × PV)}{z:List PV}{K:List PV→Prop}:kP fs ((i,p)::ps) z K=eO (j8 fs i) fun q=>eO (eF p) fun l=>aE (l.length=q.2.1∧q.1+q.2.1≤z.length) (kP fs ps (z.take q.1++l++z.drop (q.1+q.2.1)) K):=rfl
theorem yG{fs:List (Nat × Nat × Bool)}:∀ {ps:List (Nat × PV)} {z:List PV} {K:List PV→Prop},(∃l,qL fs ps z=some l∧K l)↔kP fs ps z K
 | [],z,K=>by simp [qL,kP]
 | (i,p)::ps,z,K=>by
  simp only [qL,kP,eO,aE,j8]
  cases h1:fs[i]? with
  | none=>simp
  | some q =>
   obtain⟨o,n,b⟩:=q
   cases h2:eF p with
   | none=>simp
   | some l =>
    simp only [Option.some.injEq,exists_eq_left']
    rw [←yG]
    split
    ·rename_i h;simp [h]
    ·rename_i h;simp [h]
def jU(ti:TI)(ps:List (Nat × PV))(K:PV→Prop):Prop:=
 match ti with
 | .struct fs z=>kP fs ps z fun l=>K (.ag l)
 | .arr _ k n z=>kP (J7 k n) ps z fun l=>K (.ag l)
 | _=>False
@[congr] theorem aaP{t t':TI}{ps OO:List (Nat × PV)}{K:PV→Prop}(h:t=t')(h2:ps=OO):jU t ps K=jU t' OO K:=by rw [h,h2]
@[simp] theorem WC{fs:List (Nat × Nat × Bool)}{z:List PV}{ps:List (Nat × PV)}{K:PV→Prop}:jU (.struct fs z) ps K=kP fs ps z fun l=>K (.ag l):=rfl
@[simp] theorem aef{e k n:Nat}{z:List PV}{ps:List (Nat × PV)}{K:PV→Prop}:jU (.arr e k n z) ps K=kP (J7 k n) ps z fun l=>K (.ag l):=rfl
@[simp] theorem aj6{k n i:Nat}:j8 (J7 k n) i=if i<k then some (i*n,n,false)else none:=by
 unfold j8 J7
 rw [List.getElem?_map]
 split
 ·rename_i h;rw [List.getElem?_range h];rfl
 ·rename_i h;rw [List.getElem?_eq_none (by simpa using h)];rfl
theorem vJ{ti:TI}{ps:List (Nat × PV)}{K:PV→Prop}:aT (fun v=>oE ti ps v) K=jU ti ps K:=by
 simp only [oE,jU]
 cases ti with
 | struct fs z =>
  apply propext;simp only [aT]
  rw [←yG]
  constructor
  ·rintro⟨v,⟨l,h1,rfl⟩,h2⟩;exact⟨l,h1,h2⟩
  ·rintro⟨l,h1,h2⟩;exact⟨_,⟨l,h1,rfl⟩,h2⟩
 | arr e k n z =>
  apply propext;simp only [aT]
  rw [←yG]
  constructor
  ·rintro⟨v,⟨l,h1,rfl⟩,h2⟩;exact⟨l,h1,h2⟩
  ·rintro⟨l,h1,h2⟩;exact⟨_,⟨l,h1,rfl⟩,h2⟩
 | _=>simp [aT]
def iE(n:Nat):Nat→List (Nat × PV)→(List (List PV)→Prop)→Prop
 | _,[],K=>K []
 | k,(i,p)::ps,K=>eO (bS p) fun l=>aE (i=k∧l.length=n) (iE n (k+1) ps fun els=>K (l::els))
@[congr] theorem abv{n k:Nat}{ps OO:List (Nat × PV)}{K:List (List PV)→Prop}(h:ps=OO):iE n k ps K=iE n k OO K:=by rw [h]
@[simp] theorem agB{n k:Nat}{K:List (List PV)→Prop}:iE n k [] K=go (K []):=rfl
@[simp] theorem aeg{n k i:Nat}{p:PV}{ps:List (Nat × PV)}{K:List (List PV)→Prop}:iE n k ((i,p)::ps) K=eO (bS p) fun l=>aE (i=k∧l.length=n) (iE n (k+1) ps fun els=>K (l::els)):=rfl
theorem uE{n:Nat}:∀ {ps:List (Nat × PV)} {k:Nat} {K:List (List PV)→Prop},(∃l,fU n k ps=some l∧K l)↔iE n k ps K
 | [],k,K=>by simp [fU,iE]
 | (i,p)::ps,k,K=>by
  simp only [fU,iE,eO,aE]
  cases h2:bS p with
  | none=>simp
  | some l =>
   simp only [Option.some.injEq,exists_eq_left']
   rw [←uE]
   by_cases h:i=k∧l.length=n
   ·rw [if_pos h]
    constructor
    ·rintro⟨e,h1,h3⟩
     obtain⟨e',h4,rfl⟩:=Option.map_eq_some_iff.1 h1
     exact⟨h,e',h4,h3⟩
    ·rintro⟨_,e',h4,h3⟩
     exact⟨_,by rw [h4];rfl,h3⟩
   ·rw [if_neg h];simp [h]
def yH(rows:Rows)(els:List (List PV)):Prop:=(∀e∈els,∀p∈e,bU (fz rows p)=true∧gR rows p)∧(∀e∈els,∀p∈e,aU p = [])
@[simp] theorem aj7{rows:Rows}:yH rows []=True:=by simp [yH]
@[simp] theorem agC{rows:Rows}{e:List PV}{els:List (List PV)}:yH rows (e::els)=((∀p∈e,bU (fz rows p)=true∧gR rows p∧aU p = [])∧yH rows els):=by
 simp only [yH,List.mem_cons,forall_eq_or_imp,eq_iff_iff]
 constructor
 ·rintro⟨⟨h1,h2⟩,h3,h4⟩;exact⟨fun p hp=>⟨(h1 p hp).1,(h1 p hp).2,h3 p hp⟩,h2,h4⟩
 ·rintro⟨h1,h2,h4⟩;exact⟨⟨fun p hp=>⟨(h1 p hp).1,(h1 p hp).2.1⟩,h2⟩,fun p hp=>(h1 p hp).2.2,h4⟩
def sR(ti:TI)(rows:Rows)(len:Nat)(ps:List (Nat × PV))(K:PV→Prop):Prop:=
 match ti with
 | .slice _ n _ _=>iE n 0 ps fun els=>aE (len=els.length∧len≤4096∧n≤4096∧yH rows els) (K (.gU (els.map fun e=>e.map (fz rows))))
 | _=>False
@[congr] theorem aeh{t t':TI}{rows:Rows}{len:Nat}{ps OO:List (Nat × PV)}{K:PV→Prop}(h:t=t')(h2:ps=OO):sR t rows len ps K=sR t' rows len OO K:=by rw [h,h2]
@[simp] theorem aei{e n b:Nat}{z:List PV}{rows:Rows}{len:Nat}{ps:List (Nat × PV)}{K:PV→Prop}:sR (.slice e n b z) rows len ps K=iE n 0 ps fun els=>aE (len=els.length∧len≤4096∧n≤4096∧yH rows els) (K (.gU (els.map fun e=>e.map (fz rows)))):=rfl
theorem BX{ti:TI}{rows:Rows}{len:Nat}{ps:List (Nat × PV)}{K:PV→Prop}:aT (fun v=>KQ ti rows len ps v) K=sR ti rows len ps K:=by
 simp only [KQ,sR]
 cases ti with
 | slice e n b z =>
  apply propext;simp only [aT]
  rw [←uE]
  constructor
  ·rintro⟨v,⟨l,h1,h2,h3,h4,h5,h6,rfl⟩,h7⟩;exact⟨l,h1,⟨h2,h3,h4,h5,h6⟩,h7⟩
  ·rintro⟨l,h1,⟨h2,h3,h4,h5,h6⟩,h7⟩;exact⟨_,⟨l,h1,h2,h3,h4,h5,h6,rfl⟩,h7⟩
 | _=>simp [aT]
def sS(i:Nat)(x:PV)(K:PV→Prop):Prop:=
 match x with
 | .dX l=>eO (j8 l i) K
 | _=>False
@[congr] theorem aej{i:Nat}{x x':PV}{K:PV→Prop}(h:x=x'):sS i x K=sS i x' K:=by rw [h]
@[simp] theorem aj8{i:Nat}{l:List PV}{K:PV→Prop}:sS i (.dX l) K=eO (j8 l i) K:=rfl
theorem B0{i:Nat}{x:PV}{K:PV→Prop}:aT (fun v=>J6 i x v) K=sS i x K:=by
 simp only [J6,sS]
 cases x<;>first | rfl | simp [aT]
def AZ:List Oper→Nat→Option Tmp
 | [],_=>none
 | o::_,0=>o.dst
 | _::os,n+1=>AZ os n
theorem DW:∀(ops:List Oper) (j:Nat),AZ ops j=(ops[j]?).bind (·.dst)
 | [],j=>by simp [AZ]
 | o::os,0=>by simp [AZ]
 | o::os,n+1=>by simp [AZ,DW os n]
@[simp] theorem aj9{d:Option Tmp}{op:Op}{ty:TypeId}{pos:String}{af:Array Edge}{g:Option (Nat × Bool)}{os:List Oper}:AZ (⟨d,op,ty,pos,af,g⟩::os) 0=d:=rfl
@[simp] theorem aka{o:Oper}{os:List Oper}{n:Nat}:AZ (o::os) (n+1)=AZ os n:=rfl
def nB(o:Option Tmp)(f:Nat→PV)(w:Bool)(A B:Prop):Prop:=
 match o with
 | none=>False
 | some e=>stepG (f e) w A B
@[congr] theorem abw{o o':Option Tmp}{f:Nat→PV}{w:Bool}{A B:Prop}(h:o=o'):nB o f w A B=nB o' f w A B:=by rw [h]
@[simp] theorem aek{e:Tmp}{f:Nat→PV}{w:Bool}{A B:Prop}:nB (some e) f w A B=stepG (f e) w A B:=rfl
@[simp] theorem akb{o:Option Tmp}{f:Nat→PV}{w:Bool}{A B:Prop}:go (nB o f w A B)=nB o f w A B:=rfl
section
variable {E:Env} {ops os:List Oper} {K:PS→Prop} {f:Nat→PV} {rows:Rows} {clk:Nat} {d:Option Tmp} {ty:TypeId} {pos:String} {af:Array Edge} {k:Nat} {bL:Nat→Nat→Prop} {aJ:Nat→Nat→Prop}
theorem GZ{op:Op}{j:Nat}{want:Bool}:aI E ops (⟨d,op,ty,pos,af,some (j,want)⟩::os) K ⟨f,rows,clk⟩=nB ((ops[j]?).bind (·.dst)) f want (aI E ops (⟨d,op,ty,pos,af,none⟩::os) K ⟨f,rows,clk⟩) (aI E ops os K ⟨put f d (.dX []),rows,clk⟩):=K8
theorem G0{op:Op}{j:Nat}{want:Bool}:aK E ops clk k (⟨d,op,ty,pos,af,some (j,want)⟩::os) K ⟨f,rows,bL,aJ⟩=nB ((ops[j]?).bind (·.dst)) f want (aK E ops clk k (⟨d,op,ty,pos,af,none⟩::os) K ⟨f,rows,bL,aJ⟩) (aK E ops clk (k+1) os K ⟨put f d (.dX []),rows,bL,aJ⟩):=LG
end
section
variable {E:Env} {ops os:List Oper} {K:PS→Prop} {f:Nat→PV} {rows:Rows} {clk:Nat} {d:Option Tmp} {ty:TypeId} {pos:String} {af:Array Edge} {k:Nat} {bL:Nat→Nat→Prop} {aJ:Nat→Nat→Prop}
theorem LP{t:TypeId}{x:Operand}:aI E ops (⟨d, .load t x,ty,pos,af,none⟩::os) K ⟨f,rows,clk⟩=jL E t rows (aO f x) fun v=>aI E ops os K ⟨put f d v,rows,clk⟩:=by rw [RE,rI]
theorem G1{t:TypeId}{i:Nat}{x:Operand}:aI E ops (⟨d, .field t x i,ty,pos,af,none⟩::os) K ⟨f,rows,clk⟩=i3 (E.ty t) i (aO f x) fun v=>aI E ops os K ⟨put f d v,rows,clk⟩:=by rw [K9,vG]
theorem wK{t:TypeId}{i:Nat}{x:Operand}:aI E ops (⟨d, .fieldAddr t x i,ty,pos,af,none⟩::os) K ⟨f,rows,clk⟩=dC (E.ty t) rows i (aO f x) fun v=>aI E ops os K ⟨put f d v,rows,clk⟩:=by rw [yA,nU]
theorem wL{t:TypeId}{x y:Operand}:aI E ops (⟨d, .indexAddr t x y,ty,pos,af,none⟩::os) K ⟨f,rows,clk⟩=bW (E.ty t) rows (aO f x) (aO f y) fun v=>aI E ops os K ⟨put f d v,rows,clk⟩:=by rw [yB,nV]
theorem G2{t:TypeId}{x:Operand}{lo hi mx:Option Operand}:aI E ops (⟨d, .slice t x lo hi mx,ty,pos,af,none⟩::os) K ⟨f,rows,clk⟩=eS (E.ty t) rows (aO f x) (lo.map (aO f)) (hi.map (aO f)) (mx.map (aO f)) fun v=>aI E ops os K ⟨put f d v,rows,clk⟩:=by rw [LA,vI]
theorem RQ{t:TypeId}{x:Operand}:aI E ops (⟨d, .call { callee:=.builtin .len,args:=⟨[x]⟩,argTypes:=⟨[t]⟩ },ty,pos,af,none⟩::os) K ⟨f,rows,clk⟩=kB (E.ty t) rows (aO f x) fun v=>aI E ops os K ⟨put f d v,rows,clk⟩:=by rw [V0,BV]
theorem G3{t:TypeId}{p x:Operand}:aI E ops (⟨none, .store t p x,ty,pos,af,none⟩::os) K ⟨f,rows,clk⟩=i4 E t rows (aO f p) (aO f x) fun id r=>aI E ops os K ⟨f,dH rows id (some r),clk⟩:=by rw [LD,BW]
theorem DX{t t2:TypeId}{x y:Operand}:aI E ops (⟨d, .call { callee:=.builtin .append,args:=⟨[x,y]⟩,argTypes:=⟨[t,t2]⟩ },ty,pos,af,none⟩::os) K ⟨f,rows,clk⟩ =
  aE (t2=t∨UY (E.ty t2)=true) (oO (E.ty t) rows (aO f x) (aO f y) clk (d.getD 0) fun v rows clk=>aI E ops os K ⟨put f d v,rows,clk⟩):=by rw [GR,abr]
theorem LQ{t:TypeId}{x:Operand}:aK E ops clk k (⟨d, .load t x,ty,pos,af,none⟩::os) K ⟨f,rows,bL,aJ⟩=jL E t (dO .any ops k aJ rows) (aO f x) fun v=>aK E ops clk (k+1) os K ⟨put f d v,rows,i2 k (aU (aO f x)) bL,aJ⟩:=by rw [RL,rI]
theorem G4{t:TypeId}{i:Nat}{x:Operand}:aK E ops clk k (⟨d, .field t x i,ty,pos,af,none⟩::os) K ⟨f,rows,bL,aJ⟩=i3 (E.ty t) i (aO f x) fun v=>aK E ops clk (k+1) os K ⟨put f d v,rows,bL,aJ⟩:=by rw [LH,vG]
theorem wM{t:TypeId}{i:Nat}{x:Operand}:aK E ops clk k (⟨d, .fieldAddr t x i,ty,pos,af,none⟩::os) K ⟨f,rows,bL,aJ⟩=dC (E.ty t) (dO .any ops k aJ rows) i (aO f x) fun v=>aK E ops clk (k+1) os K ⟨put f d v,rows,i2 k (aU (aO f x)) bL,aJ⟩:=by rw [yD,nU]
theorem wN{t:TypeId}{x y:Operand}:aK E ops clk k (⟨d, .indexAddr t x y,ty,pos,af,none⟩::os) K ⟨f,rows,bL,aJ⟩=bW (E.ty t) (dO .any ops k aJ rows) (aO f x) (aO f y) fun v=>aK E ops clk (k+1) os K ⟨put f d v,rows,i2 k (aU (aO f x)) bL,aJ⟩:=by rw [yE,nV]
theorem G5{t:TypeId}{x:Operand}{lo hi mx:Option Operand}:aK E ops clk k (⟨d, .slice t x lo hi mx,ty,pos,af,none⟩::os) K ⟨f,rows,bL,aJ⟩=eS (E.ty t) (dO .any ops k aJ rows) (aO f x) (lo.map (aO f)) (hi.map (aO f)) (mx.map (aO f)) fun v=>aK E ops clk (k+1) os K ⟨put f d v,rows,i2 k (aU (aO f x)) bL,aJ⟩:=by rw [LI,vI]
theorem RS{t:TypeId}{x:Operand}:aK E ops clk k (⟨d, .call { callee:=.builtin .len,args:=⟨[x]⟩,argTypes:=⟨[t]⟩ },ty,pos,af,none⟩::os) K ⟨f,rows,bL,aJ⟩=kB (E.ty t) (dO .any ops k aJ rows) (aO f x) fun v=>aK E ops clk (k+1) os K ⟨put f d v,rows,i2 k (aU (aO f x)) bL,aJ⟩:=by rw [V5,BV]
theorem G6{t:TypeId}{p x:Operand}:aK E ops clk k (⟨none, .store t p x,ty,pos,af,none⟩::os) K ⟨f,rows,bL,aJ⟩ =
  i4 E t (dO .any ops k aJ rows) (aO f p) (aO f x) fun id r=>aE (xW .any ops k id bL) (aK E ops clk (k+1) os K ⟨f,dH rows id (some r),i2 k (aU (aO f p)++((bS (aO f x)).getD []).flatMap aU) bL,n5 k id aJ⟩):=by rw [LK,←BW];rfl
theorem OP{x:Operand}:go (aI E ops (⟨d, .move x,ty,pos,af,none⟩::os) K ⟨f,rows,clk⟩)=go (aI E ops os K ⟨put f d (aO f x),rows,clk⟩):=RB
theorem B3{x:Operand}:go (aI E ops (⟨d, .assign x,ty,pos,af,none⟩::os) K ⟨f,rows,clk⟩)=go (aI E ops os K ⟨put f d (aO f x),rows,clk⟩):=GQ
theorem abx{c a b:Operand}:go (aI E ops (⟨d, .pick c a b,ty,pos,af,none⟩::os) K ⟨f,rows,clk⟩)=gL (aO f c) true (aI E ops os K ⟨put f d (aO f a),rows,clk⟩) (aI E ops os K ⟨put f d (aO f b),rows,clk⟩):=RC
theorem WD{op:BinOp}{t t2:TypeId}{x y:Operand}:go (aI E ops (⟨d, .binOp op t x y t2,ty,pos,af,none⟩::os) K ⟨f,rows,clk⟩)=aT (fun v=>C9 E op t (aO f x) (aO f y) v) fun v=>aI E ops os K ⟨put f d v,rows,clk⟩:=VZ
theorem aml{op:UnOp}{t:TypeId}{x:Operand}:go (aI E ops (⟨d, .unOp op t x,ty,pos,af,none⟩::os) K ⟨f,rows,clk⟩)=aT (fun v=>yun op (aO f x) v) fun v=>aI E ops os K ⟨put f d v,rows,clk⟩:=abl
theorem DY{s t:TypeId}{x:Operand}:go (aI E ops (⟨d, .convert s t x,ty,pos,af,none⟩::os) K ⟨f,rows,clk⟩)=aT (fun v=>qM (E.ty s) (E.ty t) (aO f x) v) fun v=>aI E ops os K ⟨put f d v,rows,clk⟩:=RD
theorem LR{i:Nat}{x:Operand}:go (aI E ops (⟨d, .extract x i,ty,pos,af,none⟩::os) K ⟨f,rows,clk⟩)=sS i (aO f x) fun v=>aI E ops os K ⟨put f d v,rows,clk⟩:=by
 show aI E ops (⟨d, .extract x i,ty,pos,af,none⟩::os) K ⟨f,rows,clk⟩=_
 rw [DQ,B0]
theorem aby{t:TypeId}{x:Operand}:go (aI E ops (⟨d, .load t x,ty,pos,af,none⟩::os) K ⟨f,rows,clk⟩)=jL E t rows (aO f x) fun v=>aI E ops os K ⟨put f d v,rows,clk⟩:=LP
theorem WE{t:TypeId}{i:Nat}{x:Operand}:go (aI E ops (⟨d, .field t x i,ty,pos,af,none⟩::os) K ⟨f,rows,clk⟩)=i3 (E.ty t) i (aO f x) fun v=>aI E ops os K ⟨put f d v,rows,clk⟩:=G1
theorem DZ{t:TypeId}{i:Nat}{x:Operand}:go (aI E ops (⟨d, .fieldAddr t x i,ty,pos,af,none⟩::os) K ⟨f,rows,clk⟩)=dC (E.ty t) rows i (aO f x) fun v=>aI E ops os K ⟨put f d v,rows,clk⟩:=wK
theorem D0{t:TypeId}{x y:Operand}:go (aI E ops (⟨d, .indexAddr t x y,ty,pos,af,none⟩::os) K ⟨f,rows,clk⟩)=bW (E.ty t) rows (aO f x) (aO f y) fun v=>aI E ops os K ⟨put f d v,rows,clk⟩:=wL
theorem WG{t:TypeId}{x:Operand}{lo hi mx:Option Operand}:go (aI E ops (⟨d, .slice t x lo hi mx,ty,pos,af,none⟩::os) K ⟨f,rows,clk⟩)=eS (E.ty t) rows (aO f x) (lo.map (aO f)) (hi.map (aO f)) (mx.map (aO f)) fun v=>aI E ops os K ⟨put f d v,rows,clk⟩:=G2
theorem WH{t:TypeId}{parts:Array (Nat × Operand)}:go (aI E ops (⟨d, .build t parts,ty,pos,af,none⟩::os) K ⟨f,rows,clk⟩)=jU (E.ty t) (parts.toList.map fun x=>(x.1,aO f x.2)) fun v=>aI E ops os K ⟨put f d v,rows,clk⟩:=by
 show aI E ops (⟨d, .build t parts,ty,pos,af,none⟩::os) K ⟨f,rows,clk⟩=_
 rw [LB,vJ]
theorem G7{t:TypeId}{x y:Operand}:go (aI E ops (⟨d, .index t x y,ty,pos,af,none⟩::os) K ⟨f,rows,clk⟩)=aT (fun v=>rA E (E.ty t) (aO f x) (aO f y) v) fun v=>aI E ops os K ⟨put f d v,rows,clk⟩:=LC
theorem G8{x:Operand}:go (aI E ops (⟨d, .nilCheck x,ty,pos,af,none⟩::os) K ⟨f,rows,clk⟩)=qV rows (aO f x) fun v=>aI E ops os K ⟨put f d v,rows,clk⟩:=by show aI E ops _ K _=_;rw [AV,BU]
theorem agD{t:TypeId}{x:Operand}:go (aI E ops (⟨d, .call { callee:=.builtin .len,args:=⟨[x]⟩,argTypes:=⟨[t]⟩ },ty,pos,af,none⟩::os) K ⟨f,rows,clk⟩)=kB (E.ty t) rows (aO f x) fun v=>aI E ops os K ⟨put f d v,rows,clk⟩:=RQ
theorem agE{ts:Array TypeId}{x y:Operand}:go (aI E ops (⟨d, .call { callee:=.builtin .max,args:=⟨[x,y]⟩,argTypes:=ts },ty,pos,af,none⟩::os) K ⟨f,rows,clk⟩)=aT (fun v=>J8 (aO f x) (aO f y) v) fun v=>aI E ops os K ⟨put f d v,rows,clk⟩:=V1
theorem agF{ts:Array TypeId}{x y:Operand}:go (aI E ops (⟨d, .call { callee:=.builtin .min,args:=⟨[x,y]⟩,argTypes:=ts },ty,pos,af,none⟩::os) K ⟨f,rows,clk⟩)=aT (fun v=>J9 (aO f x) (aO f y) v) fun v=>aI E ops os K ⟨put f d v,rows,clk⟩:=V2
theorem A3{t:TypeId}{len:Nat}{parts:Array (Nat × Operand)}:go (aI E ops (⟨d, .buildSlice t len parts,ty,pos,af,none⟩::os) K ⟨f,rows,clk⟩)=sR (E.ty t) rows len (parts.toList.map fun x=>(x.1,aO f x.2)) fun v=>aI E ops os K ⟨put f d v,rows,clk⟩:=by
 show aI E ops (⟨d, .buildSlice t len parts,ty,pos,af,none⟩::os) K ⟨f,rows,clk⟩=_
 rw [wI,BX]
theorem WI{t:TypeId}{p x:Operand}:go (aI E ops (⟨none, .store t p x,ty,pos,af,none⟩::os) K ⟨f,rows,clk⟩)=i4 E t rows (aO f p) (aO f x) fun id r=>aI E ops os K ⟨f,dH rows id (some r),clk⟩:=G3
theorem WJ{t:TypeId}:go (aI E ops (⟨d, .alloc t,ty,pos,af,none⟩::os) K ⟨f,rows,clk⟩)=aE ((E.ty t).known=true) (aI E ops os K ⟨put f d (.ptr (d.getD 0) clk 0 0),dH rows (d.getD 0) (some ⟨clk,t,(E.ty t).size,[(E.ty t).zero]⟩),clk+1⟩):=LF
theorem agG{t:TypeId}{x:Operand}:go (aI E ops (⟨d, .box t x,ty,pos,af,none⟩::os) K ⟨f,rows,clk⟩)=aE ((E.ty t).known=true) (eO (bS (aO f x)) fun l=>aE (fW rows l∧l.length=(E.ty t).size) (aI E ops os K ⟨put f d (.ptr (d.getD 0) clk 0 0),dH rows (d.getD 0) (some ⟨clk,t,(E.ty t).size,[l]⟩),clk+1⟩)):=by
 show aI E ops (⟨d, .box t x,ty,pos,af,none⟩::os) K ⟨f,rows,clk⟩=_
 rw [V3]
 simp only [aE,eO,fW,and_assoc]
theorem D3{t:TypeId}{l c:Operand}:go (aI E ops (⟨d, .makeSlice t l c,ty,pos,af,none⟩::os) K ⟨f,rows,clk⟩)=oM (E.ty t) (aO f l) (aO f c) fun e n z x=>aI E ops os K ⟨put f d (.own (d.getD 0) clk 0 x.toNat),dH rows (d.getD 0) (some ⟨clk,e,n,List.replicate x.toNat z⟩),clk+1⟩:=yC
theorem RU{t t2:TypeId}{x y:Operand}:go (aI E ops (⟨d, .call { callee:=.builtin .append,args:=⟨[x,y]⟩,argTypes:=⟨[t,t2]⟩ },ty,pos,af,none⟩::os) K ⟨f,rows,clk⟩)=aE (t2=t∨UY (E.ty t2)=true) (oO (E.ty t) rows (aO f x) (aO f y) clk (d.getD 0) fun v rows clk=>aI E ops os K ⟨put f d v,rows,clk⟩):=DX
theorem abz{fo:Operand}{args:Array Operand}{ts:Array TypeId}:go (aI E ops (⟨d, .call { callee:=.value fo,args:=args,argTypes:=ts },ty,pos,af,none⟩::os) K ⟨f,rows,clk⟩)=oN E (aO f fo) (args.toList.map (aO f)) rows clk fun v rows clk=>aI E ops os K ⟨put f d v,rows,clk⟩:=RG
theorem HA{g:FuncId}{cB:Array Operand}:go (aI E ops (⟨d, .makeFunc (.func g) ⟨[]⟩ cB,ty,pos,af,none⟩::os) K ⟨f,rows,clk⟩)=aE (((cB.toList.map (aO f)).map (pz rows)).all fA=true∧dS rows ((cB.toList.map (aO f)).flatMap dG))
      (aI E ops os K ⟨put f d (.fn g ((cB.toList.map (aO f)).map (pz rows))),AN rows ((cB.toList.map (aO f)).flatMap dG),clk⟩):=AW
theorem WK{op:Op}{j:Nat}{want:Bool}:go (aI E ops (⟨d,op,ty,pos,af,some (j,want)⟩::os) K ⟨f,rows,clk⟩)=nB (AZ ops j) f want (aI E ops (⟨d,op,ty,pos,af,none⟩::os) K ⟨f,rows,clk⟩) (aI E ops os K ⟨put f d (.dX []),rows,clk⟩):=by
 rw [DW,←GZ];rfl
theorem abA{x:Operand}:go (aK E ops clk k (⟨d, .move x,ty,pos,af,none⟩::os) K ⟨f,rows,bL,aJ⟩)=go (aK E ops clk (k+1) os K ⟨put f d (aO f x),rows,bL,aJ⟩):=RH
theorem RV{x:Operand}:go (aK E ops clk k (⟨d, .assign x,ty,pos,af,none⟩::os) K ⟨f,rows,bL,aJ⟩)=go (aK E ops clk (k+1) os K ⟨put f d (aO f x),rows,bL,aJ⟩):=GU
theorem abB{c a b:Operand}:go (aK E ops clk k (⟨d, .pick c a b,ty,pos,af,none⟩::os) K ⟨f,rows,bL,aJ⟩)=gL (aO f c) true (aK E ops clk (k+1) os K ⟨put f d (aO f a),rows,bL,aJ⟩) (aK E ops clk (k+1) os K ⟨put f d (aO f b),rows,bL,aJ⟩):=RJ
theorem agH{op:BinOp}{t t2:TypeId}{x y:Operand}:go (aK E ops clk k (⟨d, .binOp op t x y t2,ty,pos,af,none⟩::os) K ⟨f,rows,bL,aJ⟩)=aT (fun v=>C9 E op t (aO f x) (aO f y) v) fun v=>aK E ops clk (k+1) os K ⟨put f d v,rows,bL,aJ⟩:=V4
theorem amm{op:UnOp}{t:TypeId}{x:Operand}:go (aK E ops clk k (⟨d, .unOp op t x,ty,pos,af,none⟩::os) K ⟨f,rows,bL,aJ⟩)=aT (fun v=>yun op (aO f x) v) fun v=>aK E ops clk (k+1) os K ⟨put f d v,rows,bL,aJ⟩:=abn
theorem abC{s t:TypeId}{x:Operand}:go (aK E ops clk k (⟨d, .convert s t x,ty,pos,af,none⟩::os) K ⟨f,rows,bL,aJ⟩)=aT (fun v=>qM (E.ty s) (E.ty t) (aO f x) v) fun v=>aK E ops clk (k+1) os K ⟨put f d v,rows,bL,aJ⟩:=RK
theorem LS{i:Nat}{x:Operand}:go (aK E ops clk k (⟨d, .extract x i,ty,pos,af,none⟩::os) K ⟨f,rows,bL,aJ⟩)=sS i (aO f x) fun v=>aK E ops clk (k+1) os K ⟨put f d v,rows,bL,aJ⟩:=by
 show aK E ops clk k (⟨d, .extract x i,ty,pos,af,none⟩::os) K ⟨f,rows,bL,aJ⟩=_
 rw [DR,B0]
theorem abD{t:TypeId}{x:Operand}:go (aK E ops clk k (⟨d, .load t x,ty,pos,af,none⟩::os) K ⟨f,rows,bL,aJ⟩)=jL E t (dO .any ops k aJ rows) (aO f x) fun v=>aK E ops clk (k+1) os K ⟨put f d v,rows,i2 k (aU (aO f x)) bL,aJ⟩:=LQ
theorem WL{t:TypeId}{i:Nat}{x:Operand}:go (aK E ops clk k (⟨d, .field t x i,ty,pos,af,none⟩::os) K ⟨f,rows,bL,aJ⟩)=i3 (E.ty t) i (aO f x) fun v=>aK E ops clk (k+1) os K ⟨put f d v,rows,bL,aJ⟩:=G4
theorem D4{t:TypeId}{i:Nat}{x:Operand}:go (aK E ops clk k (⟨d, .fieldAddr t x i,ty,pos,af,none⟩::os) K ⟨f,rows,bL,aJ⟩)=dC (E.ty t) (dO .any ops k aJ rows) i (aO f x) fun v=>aK E ops clk (k+1) os K ⟨put f d v,rows,i2 k (aU (aO f x)) bL,aJ⟩:=wM
theorem D5{t:TypeId}{x y:Operand}:go (aK E ops clk k (⟨d, .indexAddr t x y,ty,pos,af,none⟩::os) K ⟨f,rows,bL,aJ⟩)=bW (E.ty t) (dO .any ops k aJ rows) (aO f x) (aO f y) fun v=>aK E ops clk (k+1) os K ⟨put f d v,rows,i2 k (aU (aO f x)) bL,aJ⟩:=wN
theorem WM{t:TypeId}{x:Operand}{lo hi mx:Option Operand}:go (aK E ops clk k (⟨d, .slice t x lo hi mx,ty,pos,af,none⟩::os) K ⟨f,rows,bL,aJ⟩)=eS (E.ty t) (dO .any ops k aJ rows) (aO f x) (lo.map (aO f)) (hi.map (aO f)) (mx.map (aO f)) fun v=>aK E ops clk (k+1) os K ⟨put f d v,rows,i2 k (aU (aO f x)) bL,aJ⟩:=G5
theorem WN{t:TypeId}{parts:Array (Nat × Operand)}:go (aK E ops clk k (⟨d, .build t parts,ty,pos,af,none⟩::os) K ⟨f,rows,bL,aJ⟩)=jU (E.ty t) (parts.toList.map fun x=>(x.1,aO f x.2)) fun v=>aK E ops clk (k+1) os K ⟨put f d v,rows,bL,aJ⟩:=by
 show aK E ops clk k (⟨d, .build t parts,ty,pos,af,none⟩::os) K ⟨f,rows,bL,aJ⟩=_
 rw [LJ,vJ]
theorem HB{x:Operand}:go (aK E ops clk k (⟨d, .nilCheck x,ty,pos,af,none⟩::os) K ⟨f,rows,bL,aJ⟩)=qV (dO .any ops k aJ rows) (aO f x) fun v=>aK E ops clk (k+1) os K ⟨put f d v,rows,i2 k (aU (aO f x)) bL,aJ⟩:=by show aK E ops clk k _ K _=_;rw [AX,BU]
theorem agI{t:TypeId}{x:Operand}:go (aK E ops clk k (⟨d, .call { callee:=.builtin .len,args:=⟨[x]⟩,argTypes:=⟨[t]⟩ },ty,pos,af,none⟩::os) K ⟨f,rows,bL,aJ⟩)=kB (E.ty t) (dO .any ops k aJ rows) (aO f x) fun v=>aK E ops clk (k+1) os K ⟨put f d v,rows,i2 k (aU (aO f x)) bL,aJ⟩:=RS
theorem agJ{ts:Array TypeId}{x y:Operand}:go (aK E ops clk k (⟨d, .call { callee:=.builtin .max,args:=⟨[x,y]⟩,argTypes:=ts },ty,pos,af,none⟩::os) K ⟨f,rows,bL,aJ⟩)=aT (fun v=>J8 (aO f x) (aO f y) v) fun v=>aK E ops clk (k+1) os K ⟨put f d v,rows,bL,aJ⟩:=V6
theorem agK{ts:Array TypeId}{x y:Operand}:go (aK E ops clk k (⟨d, .call { callee:=.builtin .min,args:=⟨[x,y]⟩,argTypes:=ts },ty,pos,af,none⟩::os) K ⟨f,rows,bL,aJ⟩)=aT (fun v=>J9 (aO f x) (aO f y) v) fun v=>aK E ops clk (k+1) os K ⟨put f d v,rows,bL,aJ⟩:=V7
theorem A4{t:TypeId}{len:Nat}{parts:Array (Nat × Operand)}:go (aK E ops clk k (⟨d, .buildSlice t len parts,ty,pos,af,none⟩::os) K ⟨f,rows,bL,aJ⟩)=sR (E.ty t) (dO .any ops k aJ rows) len (parts.toList.map fun x=>(x.1,aO f x.2)) fun v=>aK E ops clk (k+1) os K ⟨put f d v,rows,bL,aJ⟩:=by
 show aK E ops clk k (⟨d, .buildSlice t len parts,ty,pos,af,none⟩::os) K ⟨f,rows,bL,aJ⟩=_
 rw [wJ,BX]
theorem WO{t:TypeId}{p x:Operand}:go (aK E ops clk k (⟨none, .store t p x,ty,pos,af,none⟩::os) K ⟨f,rows,bL,aJ⟩)=i4 E t (dO .any ops k aJ rows) (aO f p) (aO f x) fun id r=>aE (xW .any ops k id bL) (aK E ops clk (k+1) os K ⟨f,dH rows id (some r),i2 k (aU (aO f p)++((bS (aO f x)).getD []).flatMap aU) bL,n5 k id aJ⟩):=G6
theorem WQ{t:TypeId}:go (aK E ops clk k (⟨d, .alloc t,ty,pos,af,none⟩::os) K ⟨f,rows,bL,aJ⟩)=aE ((E.ty t).known=true∧xW .any ops k (d.getD 0) bL) (aK E ops (clk+1) (k+1) os K ⟨put f d (.ptr (d.getD 0) clk 0 0),dH rows (d.getD 0) (some ⟨clk,t,(E.ty t).size,[(E.ty t).zero]⟩),bL,n5 k (d.getD 0) aJ⟩):=LM
theorem agL{t:TypeId}{x:Operand}:go (aK E ops clk k (⟨d, .box t x,ty,pos,af,none⟩::os) K ⟨f,rows,bL,aJ⟩)=aE ((E.ty t).known=true) (eO (bS (aO f x)) fun l=>aE (fW (fun _=>none) l∧l.length=(E.ty t).size∧xW .any ops k (d.getD 0) bL) (aK E ops (clk+1) (k+1) os K ⟨put f d (.ptr (d.getD 0) clk 0 0),dH rows (d.getD 0) (some ⟨clk,t,(E.ty t).size,[l]⟩),bL,n5 k (d.getD 0) aJ⟩)):=by
 show aK E ops clk k (⟨d, .box t x,ty,pos,af,none⟩::os) K ⟨f,rows,bL,aJ⟩=_
 rw [V9]
 simp only [aE,eO,fW]
theorem D6{t:TypeId}{l c:Operand}:go (aK E ops clk k (⟨d, .makeSlice t l c,ty,pos,af,none⟩::os) K ⟨f,rows,bL,aJ⟩)=oM (E.ty t) (aO f l) (aO f c) fun e n z x=>aE (xW .any ops k (d.getD 0) bL) (aK E ops (clk+1) (k+1) os K ⟨put f d (.own (d.getD 0) clk 0 x.toNat),dH rows (d.getD 0) (some ⟨clk,e,n,List.replicate x.toNat z⟩),bL,n5 k (d.getD 0) aJ⟩):=yF
def oP(t:TI)(rows:Rows)(x y:PV)(clk d:Nat)(K:PV→Nat→Row→Prop)(K0:PV→Prop):Prop:=
 match t with
 | .slice e n b _=>i5 rows y fun l=>aE (bB n l) (match x with
  | .nil=>aE (l.length≤room∧l.length*b≤room) (K (.own d clk 0 l.length) d ⟨clk,e,n,l⟩)
  | .own id ver off len=>bK (rows id) ver fun r=>aE (off=0∧r.e=e∧r.size=n) (gH (len=r.els.length) len r.els fun els=>aE (len+l.length≤room∧(len+l.length)*b≤room) (K (.own id clk 0 (len+l.length)) id ⟨clk,e,n,els++l⟩))
  | .gU l0=>aE (bB n l0 ∧ ∀e∈l,∀p∈e,bU p=true) (aE (l0.length+l.length≤room∧(l0.length+l.length)*b≤room) (K0 (.sl (l0++l))))
  | _=>False)
 | _=>False
@[congr] theorem ael{t t':TI}{rows rows':Rows}{x x' y y':PV}{clk d:Nat}{K:PV→Nat→Row→Prop}{K0:PV→Prop}(h1:t=t')(h2:rows=rows')(h3:x=x')(h4:y=y') :
  oP t rows x y clk d K K0=oP t' rows' x' y' clk d K K0:=by rw [h1,h2,h3,h4]
section
variable {e:TypeId} {n b:Nat} {z:List PV} {rows:Rows} {y:PV} {clk d id ver off len:Nat} {K:PV→Nat→Row→Prop} {K0:PV→Prop}
@[simp] theorem akc:oP (.slice e n b z) rows .nil y clk d K K0=i5 rows y fun l=>aE (bB n l) (aE (l.length≤room∧l.length*b≤room) (K (.own d clk 0 l.length) d ⟨clk,e,n,l⟩)):=rfl
@[simp] theorem akd:oP (.slice e n b z) rows (.own id ver off len) y clk d K K0=i5 rows y fun l=>aE (bB n l) (bK (rows id) ver fun r=>aE (off=0∧r.e=e∧r.size=n) (gH (len=r.els.length) len r.els fun els=>aE (len+l.length≤room∧(len+l.length)*b≤room) (K (.own id clk 0 (len+l.length)) id ⟨clk,e,n,els++l⟩))):=rfl
@[simp] theorem ake{l0:List (List PV)}:oP (.slice e n b z) rows (.gU l0) y clk d K K0=i5 rows y fun l=>aE (bB n l) (aE (bB n l0 ∧ ∀e∈l,∀p∈e,bU p=true) (aE (l0.length+l.length≤room∧(l0.length+l.length)*b≤room) (K0 (.sl (l0++l))))):=rfl
end
@[simp] theorem amn(t:TI)(r:Rows)(x y:PV)(c d:Nat)(K:PV→Nat→Row→Prop)(K0:PV→Prop):go (oP t r x y c d K K0)=oP t r x y c d K K0:=rfl
theorem WR{t:TI}{rows:Rows}{x y:PV}{clk d:Nat}{K:PV→Option (Nat × Row)→Prop}:(∃v u,qS t rows x y clk d v u∧K v u)=oP t rows x y clk d (fun v id r=>K v (some (id,r))) (fun v=>K v none):=by
 cases t with
 | slice e n b z =>
  simp only [oP,qS]
  rw [←OM]
  apply propext
  cases x with
  | nil =>
   simp only [aE,bB]
   constructor
   ·rintro⟨v,u,⟨l,h1,h2,h3,h4,rfl,rfl⟩,h6⟩
    exact⟨l,h1,h2,⟨h3,h4⟩,h6⟩
   ·rintro⟨l,h1,h2,⟨h3,h4⟩,h6⟩
    exact⟨_,_,⟨l,h1,h2,h3,h4,rfl,rfl⟩,h6⟩
  | gU l0 =>
   simp only [aE,bB]
   constructor
   ·rintro⟨v,u,⟨l,h1,h2,h3,h4,h5,h6,rfl,rfl⟩,h7⟩
    exact⟨l,h1,h2,⟨h3,h4⟩,⟨h5,h6⟩,h7⟩
   ·rintro⟨l,h1,h2,⟨h3,h4⟩,⟨h5,h6⟩,h7⟩
    exact⟨_,_,⟨l,h1,h2,h3,h4,h5,h6,rfl,rfl⟩,h7⟩
  | own id ver off len =>
   simp only [aE,bB,bK,ON]
   constructor
   ·rintro⟨v,u,⟨l,h1,h2,r,h3,h4,h5,h6,h7,h8,h9,h10,rfl,rfl⟩,h12⟩
    exact⟨l,h1,h2,r,h3,h4,⟨h5,h7,h8⟩,h6,⟨h9,h10⟩,h12⟩
   ·rintro⟨l,h1,h2,r,h3,h4,⟨h5,h7,h8⟩,h6,⟨h9,h10⟩,h12⟩
    exact⟨_,_,⟨l,h1,h2,r,h3,h4,h5,h6,h7,h8,h9,h10,rfl,rfl⟩,h12⟩
  | _=>simp [aE]
 | _=>simp [oP,qS]
theorem RW{t t2:TypeId}{x y:Operand}:go (aK E ops clk k (⟨d, .call { callee:=.builtin .append,args:=⟨[x,y]⟩,argTypes:=⟨[t,t2]⟩ },ty,pos,af,none⟩::os) K ⟨f,rows,bL,aJ⟩) =
  aE (t2=t∨UY (E.ty t2)=true) (oP (E.ty t) (dO .any ops k aJ rows) (aO f x) (aO f y) clk (d.getD 0) (fun v id r=>aE (xW .any ops k id bL) (aK E ops (clk+1) (k+1) os K ⟨put f d v,dH rows id (some r),i2 k (aU (aO f x)++aU (aO f y)) bL,n5 k id aJ⟩))
   (fun v=>aK E ops (clk+1) (k+1) os K ⟨put f d v,rows,i2 k (aU (aO f x)++aU (aO f y)) bL,aJ⟩)):=by
 show aK E ops clk k (⟨d, .call { callee:=.builtin .append,args:=⟨[x,y]⟩,argTypes:=⟨[t,t2]⟩ },ty,pos,af,none⟩::os) K ⟨f,rows,bL,aJ⟩=_
 rw [GV]
 congr 1
 rw [WR]
 simp only [GG,T8,dQ,true_and]
 rfl
def rJ(t:TI)(rows:Rows)(x y:PV)(K:PV→Nat→Row→Prop):Prop:=
 match t,x with
 | .slice _ n _ _, .own id ver off len=>∃r,rows id=some r∧r.ver=ver∧r.size=n∧off+len≤r.els.length ∧ ∃l,qG rows y l∧(∀e∈l,e.length=n) ∧
   K (.int .i64 (min l.length len)) id { r with els:=r.els.take off++l.take len++r.els.drop (off+min l.length len) }
 | _,_=>False
@[congr] theorem abE{t t':TI}{rows rows':Rows}{x x' y y':PV}{K:PV→Nat→Row→Prop}(h1:t=t')(h2:rows=rows')(h3:x=x')(h4:y=y'):rJ t rows x y K=rJ t' rows' x' y' K:=by rw [h1,h2,h3,h4]
@[simp] theorem akg(t:TI)(r:Rows)(x y:PV)(K:PV→Nat→Row→Prop):go (rJ t r x y K)=rJ t r x y K:=rfl
theorem RX{t:TI}{rows:Rows}{x y:PV}{K:PV→Option (Nat × Row)→Prop}:(∃v u,qP t rows x y v u∧K v u)=rJ t rows x y fun v id r=>K v (some (id,r)):=by
 apply propext
 unfold qP rJ
 constructor
 ·rintro⟨v,u,h,hK⟩
  split at h
  ·obtain⟨r,h1,h2,h3,h4,l,h5,h6,rfl,rfl⟩:=h
   exact⟨r,h1,h2,h3,h4,l,h5,h6,hK⟩
  ·exact h.elim
 ·intro h
  split at h
  ·obtain⟨r,h1,h2,h3,h4,l,h5,h6,hK⟩:=h
   exact⟨_,_,⟨r,h1,h2,h3,h4,l,h5,h6,rfl,rfl⟩,hK⟩
  ·exact h.elim
theorem abF{t t2:TypeId}{x y:Operand}:go (aK E ops clk k (⟨d, .call { callee:=.builtin .copy,args:=⟨[x,y]⟩,argTypes:=⟨[t,t2]⟩ },ty,pos,af,none⟩::os) K ⟨f,rows,bL,aJ⟩) =
  rJ (E.ty t) (dO .any ops k aJ rows) (aO f x) (aO f y) fun v id r=>aE (xW .any ops k id bL) (aK E ops clk (k+1) os K ⟨put f d v,dH rows id (some r),i2 k (aU (aO f x)++aU (aO f y)) bL,n5 k id aJ⟩):=by
 show aK E ops clk k (⟨d, .call { callee:=.builtin .copy,args:=⟨[x,y]⟩,argTypes:=⟨[t,t2]⟩ },ty,pos,af,none⟩::os) K ⟨f,rows,bL,aJ⟩=_
 rw [RM,RX]
 simp only [GG,T8,dQ]
 rfl
theorem WS{s:Tmp}{args:Array Operand}{ts:Array TypeId}:go (aK E ops clk k (⟨d, .call { callee:=.value (.tmp s),args:=args,argTypes:=ts },ty,pos,af,none⟩::os) K ⟨f,rows,bL,aJ⟩)=m9 E (f s) (args.toList.map (aO f)) (dO .any ops k aJ rows) fun v=>aK E ops clk (k+1) os K ⟨put f d v,rows,bL,aJ⟩:=BS rfl
def pQ(P:Program)(g:FuncId)(args:List PV)(c:Prop)(K:TypeId→Nat→List (List PV)→Prop):Prop:=∃e n els,(args.all fA=true∧i0 P g args e n els∧c)∧K e n els
@[congr] theorem aaQ{P:Program}{g:FuncId}{args GS:List PV}{c c':Prop}{K:TypeId→Nat→List (List PV)→Prop}(h:args=GS)(hc:c=c'):pQ P g args c K=pQ P g GS c' K:=by rw [h,hc]
@[simp] theorem agM{P:Program}{g:FuncId}{args:List PV}{c:Prop}{K:TypeId→Nat→List (List PV)→Prop}:go (pQ P g args c K)=pQ P g args c K:=rfl
theorem OQ{P:Program}{g:FuncId}{args:List PV}{c:Prop}{K:TypeId→Nat→List (List PV)→Prop}{e:TypeId}{n:Nat}{els:List (List PV)}(h:i0 P g args e n els)(hp:args.all fA=true)(hc:c)(hK:go (K e n els)):pQ P g args c K:=⟨e,n,els,⟨hp,h,hc⟩,hK⟩
theorem WT{g:FuncId}{args:Array Operand}{ts:Array TypeId}:go (aK E ops clk k (⟨d, .call { callee:=.value (.func g),args:=args,argTypes:=ts },ty,pos,af,none⟩::os) K ⟨f,rows,bL,aJ⟩) =
  if E.writes g=true then pQ E.P g (args.toList.map (aO f)) (xW .any ops k (d.getD 0) bL) (fun e n els=>aK E ops (clk+1) (k+1) os K ⟨put f d (.own (d.getD 0) clk 0 els.length),dH rows (d.getD 0) (some ⟨clk,e,n,els⟩),bL,n5 k (d.getD 0) aJ⟩)
  else m9 E (.fn g []) (args.toList.map (aO f)) (dO .any ops k aJ rows) fun v=>aK E ops clk (k+1) os K ⟨put f d v,rows,bL,aJ⟩:=by
 split
 ·rename_i hw;exact LN hw
 ·rename_i hw;exact BS (by simpa [cW]using hw)
theorem HC{g:FuncId}{cB:Array Operand}:go (aK E ops clk k (⟨d, .makeFunc (.func g) ⟨[]⟩ cB,ty,pos,af,none⟩::os) K ⟨f,rows,bL,aJ⟩)=aE ((cB.toList.map fun x=>aO f x).all fA=true) (aK E ops clk (k+1) os K ⟨put f d (.fn g (cB.toList.map fun x=>aO f x)),rows,bL,aJ⟩):=AY
theorem WU{op:Op}{j:Nat}{want:Bool}:go (aK E ops clk k (⟨d,op,ty,pos,af,some (j,want)⟩::os) K ⟨f,rows,bL,aJ⟩)=nB (AZ ops j) f want (aK E ops clk k (⟨d,op,ty,pos,af,none⟩::os) K ⟨f,rows,bL,aJ⟩) (aK E ops clk (k+1) os K ⟨put f d (.dX []),rows,bL,aJ⟩):=by
 rw [DW,←G0];rfl
theorem WV{σ:PS}:go (aI E ops [] K σ)=K σ:=rfl
theorem agN{st:ST}:go (aK E ops clk k [] K st)=go (K ⟨st.f,st.rows,clk⟩):=rfl
@[simp] theorem OR{s:Nat}:aO f (.tmp s)=f s:=rfl
@[simp] theorem amp{g:FuncId}:aO f (.func g) = .fn g []:=rfl
@[simp] theorem RY{v:Value}:aO f (.const v)=lW v:=rfl
end
@[simp] theorem agO{k:IntKind}{n:Int}:lW (.int k n) = .int k n:=rfl
@[simp] theorem aem{b:Bool}:lW (.bool b) = .bool b:=rfl
@[simp] theorem LU{s:ByteArray}:lW (.string s) = .str s:=rfl
@[simp] theorem aen:lW (.pointer none) = .jE:=rfl
@[simp] theorem aeo:g9 (.pointer none) = .jE:=rfl
@[simp] theorem agP:lW (.slice none 0 0) = .nil:=rfl
@[simp] theorem agQ{cs:List Value}:lW (.agg ⟨cs⟩) = .ag (cs.map g9):=rfl
@[simp] theorem agR{k:IntKind}{n:Int}:g9 (.int k n) = .int k n:=rfl
@[simp] theorem aep{b:Bool}:g9 (.bool b) = .bool b:=rfl
@[simp] theorem agS{s:ByteArray}:g9 (.string s) = .str s:=rfl
@[simp] theorem agT:g9 (.slice none 0 0) = .nil:=rfl
@[simp] theorem amq(R K:PV→Prop):go (aT R K)=aT R K:=rfl
@[simp] theorem amr(p:PV)(w:Bool)(A B:Prop):go (stepG p w A B)=stepG p w A B:=rfl
@[simp] theorem ams(p:PV)(w:Bool)(A B:Prop):go (gL p w A B)=gL p w A B:=rfl
@[simp] theorem amt(A B:Prop):go (aE A B)=aE A B:=rfl
@[simp] theorem agU(c:Prop)(len:Nat)(els:List (List PV))(K:List (List PV)→Prop):go (gH c len els K)=gH c len els K:=rfl
@[simp] theorem amu(P:Program)(g:FuncId)(l:List PV)(K:PV→Prop):go (sN P g l K)=sN P g l K:=rfl
@[simp] theorem agV(o:Option Row)(v:Nat)(K:Row→Prop):go (bK o v K)=bK o v K:=rfl
@[simp] theorem asj(l:List (List PV))(i:Nat)(K:List PV→Prop):go (BT l i K)=BT l i K:=rfl
@[simp] theorem asl(t:TI)(l:List PV)(j:Nat)(K:PV→Prop):go (vF t l j K)=vF t l j K:=rfl
@[simp] theorem akh(E:Env)(t:TypeId)(r:Rows)(p:PV)(K:PV→Prop):go (jL E t r p K)=jL E t r p K:=rfl
@[simp] theorem agW(t:TI)(i:Nat)(x:PV)(K:PV→Prop):go (i3 t i x K)=i3 t i x K:=rfl
@[simp] theorem aqe(p:Nat × Nat × Bool)(l:List PV)(K:PV→Prop):go (DT p l K)=DT p l K:=rfl
@[simp] theorem amv(r:Rows)(x:PV)(K:PV→Prop):go (qV r x K)=qV r x K:=rfl
@[simp] theorem WW(t:TI)(r:Rows)(i:Nat)(x:PV)(K:PV→Prop):go (dC t r i x K)=dC t r i x K:=rfl
@[simp] theorem WX(t:TI)(r:Rows)(x y:PV)(K:PV→Prop):go (bW t r x y K)=bW t r x y K:=rfl
@[simp] theorem asm(d:Nat)(o:Option PV)(K:Nat→Prop):go (vH d o K)=vH d o K:=rfl
@[simp] theorem agX(t:TI)(r:Rows)(x:PV)(a b c:Option PV)(K:PV→Prop):go (eS t r x a b c K)=eS t r x a b c K:=rfl
@[simp] theorem amw(t:TI)(r:Rows)(x:PV)(K:PV→Prop):go (kB t r x K)=kB t r x K:=rfl
@[simp] theorem agY(E:Env)(t:TypeId)(r:Rows)(p x:PV)(K:Nat→Row→Prop):go (i4 E t r p x K)=i4 E t r p x K:=rfl
@[simp] theorem amx(r:Rows)(y:PV)(K:List (List PV)→Prop):go (i5 r y K)=i5 r y K:=rfl
@[simp] theorem amy(t:TI)(r:Rows)(x y:PV)(c d:Nat)(K:PV→Rows→Nat→Prop):go (oO t r x y c d K)=oO t r x y c d K:=rfl
@[simp] theorem amz(t:TI)(x y:PV)(K:TypeId→Nat→List PV→Int→Prop):go (oM t x y K)=oM t x y K:=rfl
@[simp] theorem aki(E:Env)(p:PV)(l:List PV)(r:Rows)(clk:Nat)(K:PV→Rows→Nat→Prop):go (oN E p l r clk K)=oN E p l r clk K:=rfl
@[simp] theorem amA(P:Program)(g:FuncId)(l:List PV)(r:Rows)(clk:Nat)(K:PV→Rows→Nat→Prop):go (u7 P g l r clk K)=u7 P g l r clk K:=rfl
@[simp] theorem akj(E:Env)(p:PV)(l:List PV)(r:Rows)(K:PV→Prop):go (m9 E p l r K)=m9 E p l r K:=rfl
@[simp] theorem amB{fs:List (Nat × Nat × Bool)}{ps:List (Nat × PV)}{z:List PV}{K:List PV→Prop}:go (kP fs ps z K)=kP fs ps z K:=rfl
@[simp] theorem agZ{t:TI}{ps:List (Nat × PV)}{K:PV→Prop}:go (jU t ps K)=jU t ps K:=rfl
@[simp] theorem akk{n k:Nat}{ps:List (Nat × PV)}{K:List (List PV)→Prop}:go (iE n k ps K)=iE n k ps K:=rfl
@[simp] theorem amC{t:TI}{rows:Rows}{len:Nat}{ps:List (Nat × PV)}{K:PV→Prop}:go (sR t rows len ps K)=sR t rows len ps K:=rfl
@[simp] theorem amD{i:Nat}{x:PV}{K:PV→Prop}:go (sS i x K)=sS i x K:=rfl
@[simp] theorem aqf{α:Type}(o:Option α)(K:α→Prop):go (eO o K)=eO o K:=rfl
@[simp] theorem auL{α:Type}(p:α→Prop):go (∃x,p x) = ∃x,go (p x):=rfl
@[simp] theorem amE:go False=False:=rfl
@[simp] theorem auM{p:Prop}:go (go p)=go p:=rfl
@[simp] theorem aeq{t:PV}{K:PV→Prop}:aT (fun v=>v=t) K=go (K t):=i1
@[simp] theorem asn{t:PV}{K:PV→Prop}:aT (fun v=>t=v) K=go (K t):=RA
@[simp] theorem abG{B:Prop}:aE True B=go B:=K6
@[simp] theorem aqg{len:Nat}{els:List (List PV)}{K:List (List PV)→Prop}:gH True len els K=go (K els):=DV
@[simp] theorem auN{A B:Prop}:stepG (.bool true) true A B=go A:=VS
@[simp] theorem auO{A B:Prop}:stepG (.bool true) false A B=go B:=VT
@[simp] theorem auP{A B:Prop}:stepG (.bool false) true A B=go B:=VU
@[simp] theorem auQ{A B:Prop}:stepG (.bool false) false A B=go A:=VV
@[simp] theorem auR{w:Bool}{A B:Prop}:stepG (.dX []) w A B=go B:=VW
@[simp] theorem auS{A B:Prop}:gL (.bool true) true A B=go A:=VP
@[simp] theorem auT{A B:Prop}:gL (.bool true) false A B=go B:=VQ
@[simp] theorem auU{A B:Prop}:gL (.bool false) true A B=go B:=VR
@[simp] theorem auV{A B:Prop}:gL (.bool false) false A B=go A:=VX
theorem gA{c B:Prop}(h:c):aE c B=go B:=by simp [aE,go,h]
attribute [simp] iM VO x9 VY agn K7 DP OP B3 abx WD aml DY LR aby WE DZ D0 WG WH G7 G8 HB agD agE agF A3 WI WJ agG D3 RU abz HA WK abA RV abF abB agH amm abC LS abD WL D4 D5 WM WN agI agJ agK A4 WO WQ agL D6 RW WS WT HC WU WV agN
attribute [simp] UY C9 yun qM rA J8 J9 oM oN m9 qL TI.known TI.size TI.zero TI.agg VH VI GO room
theorem A5{E:Env}{ops:List Oper}{K:PS→Prop}{f:Nat→PV}{rows:Rows}{clk:Nat}:fB E 0 ops K ⟨f,rows,clk⟩=aK E ops clk 0 ops K ⟨f,rows,fun _ _=>False,fun _ _=>False⟩:=by simp [fB]
@[simp] theorem akl{b:Bool}:fA (.bool b)=true:=rfl
@[simp] theorem ag0{b:Bool}:bU (.bool b)=true:=rfl
@[simp] theorem akm{b:Bool}:aU (.bool b) = []:=rfl
@[simp] theorem akn{rows:Rows}{b:Bool}:gR rows (.bool b)=True:=rfl
@[simp] theorem aer{b:Bool}:bS (.bool b)=some [.bool b]:=rfl
@[simp] theorem aes{b:Bool}:eF (.bool b)=some [.bool b]:=rfl
@[simp] theorem amF{k:IntKind}{n:Int}:fA (.int k n)=true:=rfl
@[simp] theorem ako{k:IntKind}{n:Int}:bU (.int k n)=true:=rfl
@[simp] theorem amG{k:IntKind}{n:Int}:aU (.int k n) = []:=rfl
@[simp] theorem amH{rows:Rows}{k:IntKind}{n:Int}:gR rows (.int k n)=True:=rfl
@[simp] theorem ag1{k:IntKind}{n:Int}:bS (.int k n)=some [.int k n]:=rfl
@[simp] theorem ag2{k:IntKind}{n:Int}:eF (.int k n)=some [.int k n]:=rfl
@[simp] theorem amI{s:ByteArray}:fA (.str s)=true:=rfl
@[simp] theorem akp{s:ByteArray}:bU (.str s)=true:=rfl
@[simp] theorem amJ{s:ByteArray}:aU (.str s) = []:=rfl
@[simp] theorem amK{rows:Rows}{s:ByteArray}:gR rows (.str s)=True:=rfl
@[simp] theorem ag3{s:ByteArray}:bS (.str s)=some [.str s]:=rfl
@[simp] theorem ag4{s:ByteArray}:eF (.str s)=some [.str s]:=rfl
@[simp] theorem akq  : fA .jE=true:=rfl
@[simp] theorem ag5  : bU .jE=true:=rfl
@[simp] theorem akr  : aU .jE = []:=rfl
@[simp] theorem aks  : dG .jE = []:=rfl
@[simp] theorem aqh{rows:Rows}:fz rows .jE = .jE:=rfl
@[simp] theorem aqi{rows:Rows}:pz rows .jE = .jE:=rfl
@[simp] theorem akt{rows:Rows}  : gR rows .jE=True:=rfl
@[simp] theorem aet  : bS .jE=some [.jE]:=rfl
@[simp] theorem aeu  : eF .jE=some [.jE]:=rfl
@[simp] theorem amL  : fA .nil=true:=rfl
@[simp] theorem aku  : bU .nil=true:=rfl
@[simp] theorem amM  : aU .nil = []:=rfl
@[simp] theorem amN{rows:Rows}  : gR rows .nil=True:=rfl
@[simp] theorem ag6  : bS .nil=some [.nil]:=rfl
@[simp] theorem ag7  : eF .nil=some [.nil]:=rfl
@[simp] theorem aqj{l:List (List PV)}:fA (.sl l)=true:=rfl
@[simp] theorem amO{l:List (List PV)}:bU (.sl l)=true:=rfl
@[simp] theorem aqk{l:List (List PV)}:aU (.sl l) = []:=rfl
@[simp] theorem aql{rows:Rows}{l:List (List PV)}:gR rows (.sl l)=True:=rfl
@[simp] theorem akv{l:List (List PV)}:bS (.sl l)=some [.sl l]:=rfl
@[simp] theorem akw{l:List (List PV)}:eF (.sl l)=some [.sl l]:=rfl
@[simp] theorem amP{l:List (List PV)}:fA (.gU l)=true:=rfl
@[simp] theorem akx{l:List (List PV)}:bU (.gU l)=true:=rfl
@[simp] theorem amQ{l:List (List PV)}:aU (.gU l) = []:=rfl
@[simp] theorem amR{rows:Rows}{l:List (List PV)}:gR rows (.gU l)=True:=rfl
@[simp] theorem ag8{l:List (List PV)}:bS (.gU l)=some [.gU l]:=rfl
@[simp] theorem ag9{l:List (List PV)}:eF (.gU l)=some [.gU l]:=rfl
@[simp] theorem abH{l:List PV}:fA (.rd l)=true:=rfl
@[simp] theorem WY{l:List PV}:bU (.rd l)=true:=rfl
@[simp] theorem abI{l:List PV}:aU (.rd l) = []:=rfl
@[simp] theorem aqm{rows:Rows}{l:List PV}:gR rows (.rd l)=True:=rfl
@[simp] theorem aky{l:List PV}:bS (.rd l)=some [.rd l]:=rfl
@[simp] theorem akz{l:List PV}:eF (.rd l)=some [.rd l]:=rfl
@[simp] theorem aqn{f:FuncId}{l:List PV}:fA (.fn f l)=true:=rfl
@[simp] theorem amS{f:FuncId}{l:List PV}:bU (.fn f l)=true:=rfl
@[simp] theorem aqo{f:FuncId}{l:List PV}:aU (.fn f l) = []:=rfl
@[simp] theorem aqp{rows:Rows}{f:FuncId}{l:List PV}:gR rows (.fn f l)=True:=rfl
@[simp] theorem akA{f:FuncId}{l:List PV}:bS (.fn f l)=some [.fn f l]:=rfl
@[simp] theorem akB{f:FuncId}{l:List PV}:eF (.fn f l)=some [.fn f l]:=rfl
@[simp] theorem aqq{l:List PV}:fA (.ag l)=l.all bU:=rfl
@[simp] theorem amT{l:List PV}:fA (.dX l)=true:=rfl
@[simp] theorem akC{l:List PV}:bS (.ag l)=some l:=rfl
@[simp] theorem akD{l:List PV}:eF (.ag l)=some l:=rfl
@[simp] theorem amU{id v o l:Nat}:aU (.own id v o l) = [id]:=rfl
@[simp] theorem amV{id v o l:Nat}:aU (.ptr id v o l) = [id]:=rfl
@[simp] theorem aha{id v o l:Nat}:bS (.own id v o l)=some [.own id v o l]:=rfl
@[simp] theorem ahb{id v o l:Nat}:bS (.ptr id v o l)=some [.ptr id v o l]:=rfl
def rowAt(o:Option Row)(ver:Nat):Prop:=∃r,o=some r∧r.ver=ver
@[simp] theorem ahc{r:Row}{ver:Nat}:rowAt (some r) ver=(r.ver=ver):=by simp [rowAt]
@[simp] theorem amW{rows:Rows}{id v o l:Nat}:gR rows (.own id v o l)=rowAt (rows id) v:=rfl
@[simp] theorem amX{rows:Rows}{id v o l:Nat}:gR rows (.ptr id v o l)=rowAt (rows id) v:=rfl
@[simp] theorem akE{e l:List PV}{j:Nat}:iN [e] 0 j l = [e.take j++l++e.drop (j+l.length)]:=by simp [iN]
@[simp] theorem akF{e:List PV}{n:Nat}:sP [e] 0 n=(n≤e.length):=by simp [sP]
@[simp] theorem akG{E:Env}{σ:PS}{t:Tmp}{rs:List ResultVar}{K:List PV→Prop}:nT E σ (.tmp t::rs) K=nT E σ rs fun vs=>K (σ.f t::vs):=rfl
@[simp] theorem akH{E:Env}{σ:PS}{K:List PV→Prop}:nT E σ [] K=K []:=rfl
@[simp] theorem ahd{E:Env}{σ:PS}{a:Tmp}{t:TypeId}{rs:List ResultVar}{K:List PV→Prop}:nT E σ (.cell a t::rs) K=jL E t σ.rows (σ.f a) fun v=>nT E σ rs fun vs=>K (v::vs):=by
 show(∃v,qK E t σ.rows (σ.f a) v∧nT E σ rs fun vs=>K (v::vs))=_
 rw [←rI];rfl
@[simp] theorem abJ{E:Env}{ops:List Oper}{K:PS→Prop}{f:Nat→PV}{rows:Rows}{clk:Nat}:go (fB E 0 ops K ⟨f,rows,clk⟩)=go (aK E ops clk 0 ops K ⟨f,rows,fun _ _=>False,fun _ _=>False⟩):=A5
theorem wrap_i64{n:Int}(h1 : -9223372036854775808≤n)(h2:n<9223372036854775808):IntKind.i64.wrap n=n:=by
 have e:IntKind.i64.wrap n=if n%18446744073709551616≥9223372036854775808 then n%18446744073709551616-18446744073709551616 else n%18446744073709551616:=by
  simp [IntKind.wrap,IntKind.bits,IntKind.signed]
 rw [e]
 split<;>omega
theorem wrap_u64{n:Int}(h1:0≤n)(h2:n<18446744073709551616):IntKind.u64.wrap n=n:=by
 simp only [IntKind.wrap,IntKind.bits,IntKind.signed,Bool.false_and,Bool.false_eq_true,if_false]
 omega
theorem wrap_u32{n:Int}(h1:0≤n)(h2:n<4294967296):IntKind.u32.wrap n=n:=by
 simp only [IntKind.wrap,IntKind.bits,IntKind.signed,Bool.false_and,Bool.false_eq_true,if_false]
 omega
theorem wA:(∀n:Int, -9223372036854775808≤n→n<9223372036854775808→IntKind.i64.wrap n=n)∧(∀n:Int,0≤n→n<18446744073709551616→IntKind.u64.wrap n=n)∧(∀n:Int,0≤n→n<4294967296→IntKind.u32.wrap n=n) ∧
  (∀a b:Int,0≤a→a.tdiv b=a/b)∧(∀a b:Int,0≤a→a.tmod b=a%b):=⟨fun _=>wrap_i64,fun _=>wrap_u64,fun _=>wrap_u32,fun _ _ h=>Int.tdiv_eq_ediv_of_nonneg h,fun _ _ h=>Int.tmod_eq_emod_of_nonneg h⟩
theorem gw:(∀ {c B:Prop},c→aE c B=go B)∧(∀n:Int, -9223372036854775808≤n→n<9223372036854775808→IntKind.i64.wrap n=n)∧(∀n:Int,0≤n→n<18446744073709551616→IntKind.u64.wrap n=n)∧(∀n:Int,0≤n→n<4294967296→IntKind.u32.wrap n=n) ∧
  (∀a b:Int,0≤a→a.tdiv b=a/b)∧(∀a b:Int,0≤a→a.tmod b=a%b):=⟨gA,wA⟩
theorem wrap_u8{n:Int}(h1:0≤n)(h2:n<256):IntKind.u8.wrap n=n:=by
 simp only [IntKind.wrap,IntKind.bits,IntKind.signed,Bool.false_and,Bool.false_eq_true,if_false]
 omega
theorem iO{n:Int}:IntKind.u64.wrap n=n%18446744073709551616:=by
 simp only [IntKind.wrap,IntKind.bits,IntKind.signed,Bool.false_and,Bool.false_eq_true,if_false]
 rfl
theorem wrap_u32'{n:Int}:IntKind.u32.wrap n=n%4294967296:=by
 simp only [IntKind.wrap,IntKind.bits,IntKind.signed,Bool.false_and,Bool.false_eq_true,if_false]
 rfl
section
variable {E:Env} {n:Nat} {tl:Nat→Nat} {Q:PX→PS→Prop} {σ:PS}
theorem W.cG{id:Nat}{ops:List Oper}(h:∀K:PS→Prop,(∀σ,Q .normal σ→K σ)→go (aI E ops ops K σ)):W E n tl (.region id ops.toArray false) Q σ:=W.GP h
theorem W.LV{id:Nat}{ops:List Oper}(h:∀K:PS→Prop,(∀σ,Q .normal σ→K σ)→go (fB E (tl id) ops K σ)):W E n tl (.region id ops.toArray true) Q σ:=W.VL h
theorem W.dI{id:Nat}{ops:List Oper}{y:Code}(h:∀K:PS→Prop,(∀σ,W E n tl y Q σ→K σ)→go (aI E ops ops K σ)):W E n tl (.seq (.region id ops.toArray false) y) Q σ:=W.K5 h
theorem W.WZ{id:Nat}{ops:List Oper}{y:Code}(h:∀K:PS→Prop,(∀σ,W E n tl y Q σ→K σ)→go (fB E (tl id) ops K σ)):W E n tl (.seq (.region id ops.toArray true) y) Q σ:=W.VM h
end
section
variable {E:Env} {n:Nat} {tl:Nat→Nat} {Q:PX→PS→Prop} {σ:PS}
theorem W.bC{c:Code}(I:Nat→PS→Prop)(k:Nat)(h0:∃σ0,Gh n σ σ0∧I k σ0)(h1:∀k σ,I k σ→W E n tl c (AS (fun σ'=>∃m σ'',Gh n σ' σ''∧m<k∧I m σ'') Q) σ):W E n tl (.loop c) Q σ:=by
 obtain⟨σ0,hg,h0⟩:=h0
 refine W.ghost hg ?_
 refine W.loop (fun k σ=>∃σ',Gh n σ σ'∧I k σ') k ⟨σ0,fun _ _ _ _ _ h=>h,h0⟩ ?_
 rintro k σ ⟨σ',hg,hI⟩
 refine W.ghost hg (W.mono (h1 k σ' hI) fun x τ hx=>?_)
 cases x with
 | normal=>obtain⟨m,σ'',h2,h3,h4⟩:=hx;exact⟨m,h3,σ'',h2,h4⟩
 | exit id=>exact hx
 | ret=>exact hx
theorem Gh.refl:Gh n σ σ:=fun _ _ _ _ _ h=>h
theorem W.W3{c:Operand}{t e:Code}(b:Prop)[Decidable b](hc:aO σ.f c = .bool (decide b))(h1:b→W E n tl t Q σ)(h2:¬b→W E n tl e Q σ):W E n tl (.cond c t e) Q σ:=W.cond ⟨_,hc,fun h=>h1 (of_decide_eq_true h),fun h=>h2 (of_decide_eq_false h)⟩
theorem W.ghf{f:Nat→PV}{rows:Rows}{clk:Nat}{c:Code}(l:List (Nat × PV))(hl:∀p∈l,f p.1=p.2)(h:W E n tl c Q ⟨fa l,rows,clk⟩):W E n tl c Q ⟨f,rows,clk⟩:=by
 have:=aD (f:=f) (rows:=rows) (clk:=clk) n (l.map (·.1))
 have e:((l.map (·.1)).map fun i=>(i,f i))=l:=by
  rw [List.map_map]
  conv=>rhs;rw [←List.map_id l]
  exact List.map_congr_left fun p hp=>by simp [hl p hp]
 rw [e]at this
 exact W.ghost this h
theorem Gh.fr{f:Nat→PV}{rows:Rows}{clk:Nat}(l:List (Nat × PV))(hl:∀p∈l,f p.1=p.2):Gh n ⟨f,rows,clk⟩ ⟨fa l,rows,clk⟩:=by
 have:=aD (f:=f) (rows:=rows) (clk:=clk) n (l.map (·.1))
 have e:((l.map (·.1)).map fun i=>(i,f i))=l:=by
  rw [List.map_map]
  conv=>rhs;rw [←List.map_id l]
  exact List.map_congr_left fun p hp=>by simp [hl p hp]
 rw [e]at this
 exact this
end
theorem cD{E:Env}{x7:FuncId}{fn:Func}{code:Code}(tl:Nat→Nat){args:List PV}{r:PV}(l:List (Nat × PV))(h1:E.P.funcs[x7]? = some fn)(h2:fn.body=some code) (h3:(fn.name == "runtime.NumGoroutine") = false)
  (fG:eA E fn.ntmps tl code=true) (eX:args.length≤fn.ntmps) (hl:∀p∈l,args.getD p.1 .undef=p.2) (h:W E fn.ntmps tl code (VI E fn.results.toList r) ⟨fa l,fun _=>none,0⟩):aL E.P x7 args r:=
 VN tl h1 h2 h3 fG eX (W.ghf l (by simpa using hl) h)
end Pm
namespace Pm
@[simp] theorem aqr{a:Int}:Int.fdiv a 4294967296=a/4294967296:=Int.fdiv_eq_ediv_of_nonneg a (by decide)
@[simp] theorem aqs{a:Int}:Int.fdiv a 9223372036854775808=a/9223372036854775808:=Int.fdiv_eq_ediv_of_nonneg a (by decide)
attribute [simp] Go.IntKind.bits
end Pm
namespace Pm
open Go Go.RowKit
section
variable {E:Env} {n:Nat} {tl:Nat→Nat} {Q:PX→PS→Prop} {σ:PS}
theorem W.iF{x y:Code}(J:PS→Prop)(h:W E n tl x (AS (fun σ=>∃σ',Gh n σ σ'∧J σ') Q) σ)(hy:∀σ,J σ→W E n tl y Q σ):W E n tl (.seq x y) Q σ:=
 W.seq (W.mono h fun x σ hx=>by
  cases x with
  | normal=>obtain⟨σ',hg,hJ⟩:=hx;exact W.ghost hg (hy σ' hJ)
  | exit id=>exact hx
  | ret=>exact hx)
def LW(J:PS→Prop)(Q:PX→PS→Prop):PX→PS→Prop
 | .normal,σ=>J σ
 | .exit id,σ=>Q (.exit id) σ
 | .ret,σ=>Q .ret σ
theorem W.iG{id:Nat}{x y:Code}(J:PS→Prop)(h:W E n tl x (AU id (LW (fun σ=>∃σ',Gh n σ σ'∧J σ') Q)) σ)(hy:∀σ,J σ→W E n tl y Q σ):W E n tl (.seq (.block id x) y) Q σ:=
 W.seq (W.block (W.mono h fun x σ hx=>by
  cases x with
  | normal=>obtain⟨σ',hg,hJ⟩:=hx;exact W.ghost hg (hy σ' hJ)
  | exit j =>
   simp only [AU]at hx ⊢
   split
   ·rename_i hj;rw [if_pos hj]at hx;obtain⟨σ',hg,hJ⟩:=hx;exact W.ghost hg (hy σ' hJ)
   ·rename_i hj;rw [if_neg hj]at hx;exact hx
  | ret=>exact hx))
theorem W.fX{id:Nat}{ops:List Oper}{y:Code}(J:PS→Prop)(h:∀K:PS→Prop,(∀σ σ',Gh n σ σ'→J σ'→K σ)→go (aI E ops ops K σ))(hy:∀σ,J σ→W E n tl y Q σ):W E n tl (.seq (.region id ops.toArray false) y) Q σ:=
 W.dI fun K hK=>h K fun σ _ hg hJ=>hK σ (W.ghost hg (hy _ hJ))
theorem W.HD{id:Nat}{ops:List Oper}{y:Code}(J:PS→Prop)(h:∀K:PS→Prop,(∀σ σ',Gh n σ σ'→J σ'→K σ)→go (fB E (tl id) ops K σ))(hy:∀σ,J σ→W E n tl y Q σ):W E n tl (.seq (.region id ops.toArray true) y) Q σ:=
 W.WZ fun K hK=>h K fun σ _ hg hJ=>hK σ (W.ghost hg (hy _ hJ))
@[simp] theorem aev{J:PS→Prop}:LW J Q .normal σ=J σ:=rfl
@[simp] theorem amY{J:PS→Prop}:LW J Q .ret σ=Q .ret σ:=rfl
@[simp] theorem akI{J:PS→Prop}{id:Nat}:LW J Q (.exit id) σ=Q (.exit id) σ:=rfl
@[simp] theorem aew{J:PS→Prop}:AS J Q .normal σ=J σ:=rfl
@[simp] theorem amZ{J:PS→Prop}:AS J Q .ret σ=Q .ret σ:=rfl
@[simp] theorem akJ{J:PS→Prop}{id:Nat}:AS J Q (.exit id) σ=Q (.exit id) σ:=rfl
@[simp] theorem aex{id:Nat}:AU id Q .normal σ=Q .normal σ:=rfl
@[simp] theorem am0{id:Nat}:AU id Q .ret σ=Q .ret σ:=rfl
@[simp] theorem akK{id j:Nat}:AU id Q (.exit j) σ=if j=id then Q .normal σ else Q (.exit j) σ:=rfl
theorem pX:(∀(Q:PX→PS→Prop) (σ:PS) (id j:Nat),AU id Q (.exit j) σ=if j=id then Q .normal σ else Q (.exit j) σ)∧(∀(Q:PX→PS→Prop) (σ:PS) (id:Nat),AU id Q .normal σ=Q .normal σ)∧(∀(Q:PX→PS→Prop) (σ:PS) (id:Nat),AU id Q .ret σ=Q .ret σ) ∧
  (∀(J:PS→Prop) (Q:PX→PS→Prop) (σ:PS) (id:Nat),AS J Q (.exit id) σ=Q (.exit id) σ)∧(∀(J:PS→Prop) (Q:PX→PS→Prop) (σ:PS),AS J Q .normal σ=J σ)∧(∀(J:PS→Prop) (Q:PX→PS→Prop) (σ:PS),AS J Q .ret σ=Q .ret σ) ∧
  (∀(J:PS→Prop) (Q:PX→PS→Prop) (σ:PS) (id:Nat),LW J Q (.exit id) σ=Q (.exit id) σ)∧(∀(J:PS→Prop) (Q:PX→PS→Prop) (σ:PS),LW J Q .normal σ=J σ)∧(∀(J:PS→Prop) (Q:PX→PS→Prop) (σ:PS),LW J Q .ret σ=Q .ret σ):=
 ⟨fun _ _ _ _=>rfl,fun _ _ _=>rfl,fun _ _ _=>rfl,fun _ _ _ _=>rfl,fun _ _ _=>rfl,fun _ _ _=>rfl,fun _ _ _ _=>rfl,fun _ _ _=>rfl,fun _ _ _=>rfl⟩
end
end Pm
namespace Pm
open Go
theorem am1{P:Program}{g:FuncId}{fJ:List PV}{rows:Rows}{clk:Nat}{K:PV→Rows→Nat→Prop}{R:PV→Rows→Nat→Prop}(h:QX P g fJ rows clk R)(hK:∀r rows' fQ,R r rows' fQ→go (K r rows' fQ)):u7 P g fJ rows clk K:=⟨R,h,hK⟩
theorem aC{P:Program}{g:FuncId}{args:List PV}{K:PV→Prop}{v:PV}(h:aL P g args v)(hK:go (K v)):sN P g args K:=⟨v,h,hK⟩
theorem W.W4{E:Env}{n:Nat}{tl:Nat→Nat}{c:Code}{Q:PX→PS→Prop}{f:Nat→PV}{rows:Rows}{clk:Nat}(l:List Nat)(h:∀K:PS→Prop,(∀σ,W E n tl c Q σ→K σ)→K ⟨fa (l.map fun i=>(i,f i)),rows,clk⟩):W E n tl c Q ⟨f,rows,clk⟩:=W.live l (h _ fun _ h=>h)
theorem W.lv{E:Env}{n:Nat}{tl:Nat→Nat}{c:Code}{Q:PX→PS→Prop}{f:Nat→PV}{rows:Rows}{clk:Nat}{K0:PS→Prop}(l:List Nat)(hK:∀σ,W E n tl c Q σ→K0 σ)(h:∀K:PS→Prop,(∀σ,W E n tl c Q σ→K σ)→K ⟨fa (l.map fun i=>(i,f i)),rows,clk⟩):K0 ⟨f,rows,clk⟩:=hK _ (W.W4 l h)
inductive Bx(P:PS→Prop):Type
  | mk
def aW{P:PS→Prop}(_:Bx P)(σ:PS):Prop:=P σ
theorem W.lw{E:Env}{n:Nat}{tl:Nat→Nat}{c:Code}{Q:PX→PS→Prop}{f:Nat→PV}{rows:Rows}{clk:Nat}{K0:PS→Prop}(l:List Nat)(hK:∀σ,W E n tl c Q σ→K0 σ)(h:aW (Bx.mk (P:=W E n tl c Q)) ⟨fa (l.map fun i=>(i,f i)),rows,clk⟩):K0 ⟨f,rows,clk⟩:=hK _ (W.W4 l fun _ q=>q _ h)
theorem W.lx{E:Env}{n:Nat}{tl:Nat→Nat}{c:Code}{Q:PX→PS→Prop}{f:Nat→PV}{rows:Rows}{clk:Nat}(l:List Nat)(h:aW (Bx.mk (P:=W E n tl c Q)) ⟨fa (l.map fun i=>(i,f i)),rows,clk⟩):aW (Bx.mk (P:=W E n tl c Q)) ⟨f,rows,clk⟩:=W.W4 l fun _ q=>q _ h
theorem W.sr{E:Env}{n:Nat}{tl:Nat→Nat}{Q:PX→PS→Prop}{σ:PS}{id:Nat}{ops:List Oper}{y:Code}(h:go (aI E ops ops (aW (Bx.mk (P:=W E n tl y Q))) σ)):W E n tl (.seq (.region id ops.toArray false) y) Q σ:=by
  refine W.seq ?_
  intro fG w0 S0 G a w Q' hR hQ
  simp only [eA,oL,Bool.and_eq_true]at fG
  refine wp_region_list (fV (fun σ' a' w' hk jZ=>hQ .normal σ' a' w' hk jZ) _ σ a w (fun o ho t ht=>?_) h hR)
  have:=Array.all_eq_true_iff_forall_mem.1 fG.1 o (by simpa using ho)
  simpa [ht]using this
theorem W.sd{E:Env}{n:Nat}{tl:Nat→Nat}{Q:PX→PS→Prop}{σ:PS}{id:Nat}{ops:List Oper}{y:Code}(h:go (fB E (tl id) ops (aW (Bx.mk (P:=W E n tl y Q))) σ)):W E n tl (.seq (.region id ops.toArray true) y) Q σ:=by
  refine W.seq ?_
  intro fG w0 S0 G a w Q' hR hQ
  exact qT (by simpa [eA]using fG) h hR fun σ' a' w' hk jZ=>hQ .normal σ' a' w' hk jZ
end Pm
namespace Pm
open Go Go.RowKit
def Wk(p q:PV):Prop:=q=p∨(p = .nil∧q = .sl [])
theorem Wk.rep{c:Cx}{p q:PV}{v:Value}(h:Wk p q)(hr:aN c p v):aN c q v:=by
 rcases h with rfl | ⟨rfl,rfl⟩
 ·exact hr
 ·simp only [aN,cN]at hr ⊢
  exact⟨none,0,by simpa using hr,by simp,by simp, .inl trivial⟩
theorem a9.flat{α β:Type}{R:α→β→Prop}:∀ {l:List (List α)} {m:List (List β)},a9 (a9 R) l m→a9 R l.flatten m.flatten
 | [],[],_=>trivial
 | a::l,b::m,h=>by
  obtain⟨h1,h2⟩:=h
  have ih:=a9.flat h2
  clear h2
  induction a generalizing b with
  | nil=>cases b with
   | nil=>exact ih
   | cons=>exact h1.elim
  | cons x a iha=>cases b with
   | nil=>exact h1.elim
   | cons y b=>exact⟨h1.1,iha b h1.2⟩
theorem ahe{n id ver e m clk:Nat}{f:Nat→PV}{rows:Rows}{els wH:List (List PV)}(hr:rows id=some ⟨ver,e,m,els⟩)(hw:a9 (a9 fun q p=>Wk p q) wH els):Gh n ⟨f,rows,clk⟩ ⟨f,dH rows id (some ⟨ver,e,m,wH⟩),clk⟩:=by
 rintro w0 S0 G a w ⟨⟨c,rfl,qH,eY,hI,hf,hG⟩,h7,h8⟩
 have jW:c.rows id=some ⟨ver,e,m,els⟩:=by rw [qH];exact hr
 obtain⟨⟨xs,g1,g2,g3⟩,g4,g5,g6⟩:=hI.row id _ jW
 have hlen:wH.length=els.length:=hw.length
 obtain⟨tV,hA⟩:=hI.dH (w':=c.w) (r':=⟨ver,e,m,wH⟩) (xs:=xs) jW (World.grownBy.refl _ _) (by simp only [hlen];exact g1)
  (by
   have h1:=a9.flat hw
   have:∀ {l:List PV} {k:List PV} {vs:List Value},a9 (fun q p=>Wk p q) l k→a9 (aN c) k vs→a9 (aN c) l vs:=by
    intro l
    induction l with
    | nil=>intro k vs h h';cases k with
     | nil=>exact h'
     | cons=>exact h.elim
    | cons x l ih=>intro k vs h h';cases k with
     | nil=>exact h.elim
     | cons y k=>cases vs with
      | nil=>exact h'.elim
      | cons v vs=>exact⟨h.1.rep h'.1,ih h.2 h'.2⟩
   exact this h1 g2) g3 (fun el mW=>by
   obtain⟨k,hk⟩:=List.getElem?_of_mem mW
   obtain⟨b,hb,h1⟩:=hw.get hk
   rw [h1.length]
   exact g4 b (List.mem_of_getElem? hb)) rfl rfl hlen
 refine⟨⟨{ c with rows:=dH c.rows id (some ⟨ver,e,m,wH⟩) },rfl,by simp [qH],eY,tV,fun s=>aH.qY hA _ _ (hf s),fun p hp=>aH.qY hA _ _ (hG p hp)⟩,h7,h8⟩
theorem ahf{n s id e m clk:Nat}{f:Nat→PV}{rows:Rows}(hs:f s = .nil)(hm:0<m):Gh n ⟨f,rows,clk⟩ ⟨put f (some s) (.own id clk 0 0),dH rows id (some ⟨clk,e,m,[]⟩),clk+1⟩:=by
 rintro w0 S0 G a w ⟨⟨c,rfl,qH,eY,hI,hf,hG⟩,h7,h8⟩
 obtain⟨tV,hA⟩:=hI.set (w':=c.w) (ob:=none) (id:=id) (r':=⟨clk,e,m,[]⟩) (v':=.slice none 0 0) (xs:=[]) (World.grownBy.refl _ _) (by simp) ⟨by simp, .inl ⟨rfl,rfl⟩⟩ (by simp [a9]) (by simp) (by simp) hm (by simp [Value.ownBlock]) (fun hu=>Nat.lt_irrefl _ (eY _ hu))
 refine⟨⟨{ c with β:=dH c.β id (.slice none 0 0),rows:=dH c.rows id (some ⟨clk,e,m,[]⟩),used:=fun v=>v=clk∨c.used v },rfl,by simp [qH],fun v hv=>by
  show v<clk+1
  rcases hv with rfl | hv
  ·omega
  ·have:v<clk:=eY v hv
   omega,tV,fun t=>?_,fun p hp=>aH.qY hA _ _ (hG p hp)⟩,h7,h8⟩
 simp only [put]
 split
 ·rename_i ht
  subst ht
  have h1:=hf t
  simp only at h1
  rw [hs]at h1
  simp only [aH,aN,cN]at h1
  simp only [aH,aN]
  refine⟨.inl (by first | rfl | trivial),fun r hr hv=>?_⟩
  simp only [fT,Option.some.injEq]at hr
  subst hr
  exact⟨by simp, .inl ⟨trivial,none,0,0,by simp [dH],h1⟩⟩
 ·exact aH.qY hA _ _ (hf t)
theorem HE{α β:Type}{R:α→β→Prop}{x:α}{y:β}(h:R x y):∀k:Nat,a9 R (List.replicate k x) (List.replicate k y)
 | 0=>trivial
 | k+1=>⟨h,HE h k⟩
section
variable {E:Env} {n:Nat} {tl:Nat→Nat} {Q:PX→PS→Prop} {c:Code} {f:Nat→PV} {rows:Rows} {clk:Nat}
theorem W.row{id ver e m:Nat}{els:List (List PV)}(wH:List (List PV))(hr:rows id=some ⟨ver,e,m,els⟩)(hw:a9 (a9 fun q p=>Wk p q) wH els)(h:W E n tl c Q ⟨f,dH rows id (some ⟨ver,e,m,wH⟩),clk⟩):W E n tl c Q ⟨f,rows,clk⟩:=W.ghost (ahe hr hw) h
theorem W.nil(s id e m:Nat)(hs:f s = .nil)(hm:0<m)(h:∀K:PS→Prop,(∀σ,W E n tl c Q σ→K σ)→K ⟨put f (some s) (.own id clk 0 0),dH rows id (some ⟨clk,e,m,[]⟩),clk+1⟩):W E n tl c Q ⟨f,rows,clk⟩:=W.ghost (ahf hs hm) (h _ fun _ h=>h)
end
def fzP(o:Option Row)(ver i j:Nat):PV:=
 match o with
 | some r=>if r.ver=ver then .rd ((r.els.getD i []).drop j)else .undef
 | none => .undef
@[simp] theorem asp{rows:Rows}{id ver i j:Nat}:fz rows (.ptr id ver i j)=fzP (rows id) ver i j:=rfl
@[simp] theorem asq{rows:Rows}{id ver i j:Nat}:pz rows (.ptr id ver i j)=fzP (rows id) ver i j:=rfl
@[simp] theorem aqt{ver e n:Nat}{el:List PV}:fzP (some ⟨ver,e,n,[el]⟩) ver 0 0 = .rd el:=by simp [fzP]
@[simp] theorem am2{id ver i j:Nat}:dG (.ptr id ver i j) = [id]:=rfl
@[simp] theorem aey{ver e n:Nat}{el:List PV}:cK (some ⟨ver,e,n,[el]⟩) = ∀p∈el,bU p=true:=by simp [cK]
end Pm
namespace Pm
open Go
theorem eH{E:Env}{m:Nat}{ops:List Oper}{K:PS→Prop}{f:Nat→PV}{rows:Rows}{clk:Nat}:go (fB E (m+1) ops K ⟨f,rows,clk⟩)=go (aK E ops clk 0 (ops.take (ops.length-(m+1))) (aI E ops (ops.drop (ops.length-(m+1))) K) ⟨f,rows,fun _ _=>False,fun _ _=>False⟩):=by
 simp [fB]
end Pm
namespace Pm
open Go Go.RowKit
def FX(rows:Rows)(id:Nat):PV→PV
 | .own i ver off len=>if i=id then fz rows (.own i ver off len)else .own i ver off len
 | .ptr i ver a j=>if i=id then fz rows (.ptr i ver a j)else .ptr i ver a j
 | p=>p
def D7(rows:Rows)(id:Nat):PV→PV
 | .ag l => .ag (l.map (FX rows id))
 | p=>FX rows id p
theorem D8{w0:World}{S0:dF}{c:Cx}(hI:Inv w0 S0 c){id:Nat}(hp:∀r,c.rows id=some r → ∀e∈r.els,∀p∈e,bU p=true){p:PV}{v:Value}(h:aN c p v):aN (AE c [id]) (FX c.rows id p) v:=by
 have tU:∀i ∈ [id],∀r,c.rows i=some r → ∀e∈r.els,∀p∈e,bU p=true:=by intro i hi;simp at hi;subst hi;exact hp
 have key:∀q:PV,aN c q v→(∀i∈aU q,i ∈ [id])→(fz c.rows q = .undef∨bU (fz c.rows q)=true)→aN (AE c [id]) (fz c.rows q) v:=by
  intro q hq hi ho
  rcases ho with ho | ho
  ·rw [ho];simp [aN]
  ·exact aN.gY (DF hI tU hq hi ho)
 cases p with
 | own i ver off len =>
  simp only [FX]
  split
  ·rename_i hi
   subst hi
   refine key _ h (by simp [aU]) ?_
   simp only [fz]
   cases c.rows i with
   | none=>exact .inl rfl
   | some r =>
    simp only
    split
    ·exact .inr rfl
    ·exact .inl rfl
  ·exact aN.qY (kE c [id]) _ _ h
 | ptr i ver a j =>
  simp only [FX]
  split
  ·rename_i hi
   subst hi
   refine key _ h (by simp [aU]) ?_
   simp only [fz]
   cases c.rows i with
   | none=>exact .inl rfl
   | some r =>
    simp only
    split
    ·exact .inr rfl
    ·exact .inl rfl
  ·exact aN.qY (kE c [id]) _ _ h
 | _=>exact aN.qY (kE c [id]) _ _ h
theorem OS{w0:World}{S0:dF}{c:Cx}(hI:Inv w0 S0 c){id:Nat}(hp:∀r,c.rows id=some r → ∀e∈r.els,∀p∈e,bU p=true){p:PV}{v:Value}(h:aH c p v):aH (AE c [id]) (D7 c.rows id p) v:=by
 cases p with
 | ag l =>
  obtain⟨vs,h1,h2⟩:=h
  refine⟨vs,h1,a9.dA (by simp [h2.length]) fun k a b ha hb=>?_⟩
  simp at ha
  obtain⟨q,hq,rfl⟩:=ha
  obtain⟨b',AK,hr⟩:=h2.get hq
  rw [hb]at AK;cases AK
  exact D8 hI hp hr
 | _ =>
  simp only [aH]at h
  have:=D8 hI hp h
  simp only [D7]
  exact(by
   first
    | (simp only [FX,aH]at this ⊢;exact this)
    | (simp only [FX]at this ⊢
       split
       · rename_i hi;rw [if_pos hi]at this;simp only [fz]at this ⊢;revert this;split<;>(try split)<;>exact fun h=>h
       · rename_i hi;rw [if_neg hi]at this;exact this))
theorem B4{rows:Rows}{id:Nat}:D7 rows id .undef = .undef:=rfl
theorem W5{l:List (Nat × PV)}{g:PV→PV}(hg:g .undef = .undef):(fun s=>g (fa l s))=fa (l.map fun p=>(p.1,g p.2)):=by
 funext s
 induction l with
 | nil=>exact hg
 | cons p l ih =>
  obtain⟨i,v⟩:=p
  simp only [fa,List.map_cons]
  split
  ·rfl
  ·exact ih
theorem RZ{n clk:Nat}{l:List (Nat × PV)}{rows:Rows}(id:Nat)(hp:cK (rows id)):Gh n ⟨fa l,rows,clk⟩ ⟨fa (l.map fun p=>(p.1,D7 rows id p.2)),AN rows [id],clk⟩:=by
 rintro w0 S0 G a w ⟨⟨c,rfl,qH,eY,hI,hf,hG⟩,h7,h8⟩
 have W6:c.rows=rows:=qH
 subst W6
 refine⟨⟨AE c [id],rfl,rfl,eY,hI.freeze [id],fun s=>?_,fun p hp=>aH.qY (kE c [id]) _ _ (hG p hp)⟩,h7,h8⟩
 rw [←W5 (g:=D7 c.rows id) B4]
 exact OS hI hp (hf s)
theorem W.freeze{E:Env}{n:Nat}{tl:Nat→Nat}{Q:PX→PS→Prop}{c:Code}{l:List (Nat × PV)}{rows:Rows}{clk:Nat}(id:Nat)(hp:cK (rows id))(h:∀K:PS→Prop,(∀σ,W E n tl c Q σ→K σ)→K ⟨fa (l.map fun p=>(p.1,D7 rows id p.2)),AN rows [id],clk⟩):W E n tl c Q ⟨fa l,rows,clk⟩:=W.ghost (RZ id hp) (h _ fun _ h=>h)
@[simp] theorem aqu{rows:Rows}{id i ver off len:Nat}:D7 rows id (.own i ver off len)=if i=id then fzR (rows i) ver off len else .own i ver off len:=rfl
@[simp] theorem aqv{rows:Rows}{id i ver a j:Nat}:D7 rows id (.ptr i ver a j)=if i=id then fzP (rows i) ver a j else .ptr i ver a j:=rfl
@[simp] theorem aqw{α:Type}{g:α→List PV}{rows:Rows}{id:Nat}{l:List α}:D7 rows id (aQ g l)=aQ g l:=rfl
@[simp] theorem aqx{rows:Rows}{id:Nat}{k:IntKind}{n:Int}:D7 rows id (.int k n) = .int k n:=rfl
@[simp] theorem am3{rows:Rows}{id:Nat}{b:Bool}:D7 rows id (.bool b) = .bool b:=rfl
@[simp] theorem aqy{rows:Rows}{id:Nat}:D7 rows id .nil = .nil:=rfl
@[simp] theorem asr{rows:Rows}{id:Nat}{l:List (List PV)}:D7 rows id (.sl l) = .sl l:=rfl
@[simp] theorem aqz{rows:Rows}{id:Nat}{l:List (List PV)}:D7 rows id (.gU l) = .gU l:=rfl
@[simp] theorem ass{rows:Rows}{id:Nat}{l:List PV}:D7 rows id (.ag l) = .ag (l.map (FX rows id)):=rfl
@[simp] theorem aqA{rows:Rows}{id:Nat}{k:IntKind}{n:Int}:FX rows id (.int k n) = .int k n:=rfl
@[simp] theorem am4{rows:Rows}{id:Nat}{b:Bool}:FX rows id (.bool b) = .bool b:=rfl
@[simp] theorem aqB{rows:Rows}{id:Nat}:FX rows id .nil = .nil:=rfl
@[simp] theorem aqC{α:Type}{g:α→List PV}{rows:Rows}{id:Nat}{l:List α}:FX rows id (aQ g l)=aQ g l:=rfl
theorem abL{n s clk:Nat}{f:Nat→PV}{rows:Rows}(q:PV)(hs:f s = .nil)(hq:q = .sl []):Gh n ⟨f,rows,clk⟩ ⟨put f (some s) q,rows,clk⟩:=by
 rintro w0 S0 G a w ⟨⟨c,rfl,qH,eY,hI,hf,hG⟩,h7,h8⟩
 refine⟨⟨c,rfl,qH,eY,hI,fun t=>?_,hG⟩,h7,h8⟩
 simp only [put]
 split
 ·rename_i ht
  subst ht
  have h1:=hf t
  simp only at h1
  rw [hs]at h1
  subst hq
  simp only [aH]at h1 ⊢
  exact Wk.rep (.inr ⟨rfl,rfl⟩) h1
 ·exact hf t
theorem W.R3{E:Env}{n:Nat}{tl:Nat→Nat}{Q:PX→PS→Prop}{c:Code}{f:Nat→PV}{rows:Rows}{clk:Nat}(s:Nat)(q:PV)(hs:f s = .nil)(hq:q = .sl [])(h:∀K:PS→Prop,(∀σ,W E n tl c Q σ→K σ)→K ⟨put f (some s) q,rows,clk⟩):W E n tl c Q ⟨f,rows,clk⟩:=W.ghost (abL q hs hq) (h _ fun _ h=>h)
theorem abM{c:Cx}{l:List (List PV)}{v:Value}(hr:aN c (.gU l) v):aN c (.sl l) v:=by
 simp only [aN,cN]at hr ⊢
 obtain⟨a,h1,h2,h3⟩:=hr
 exact⟨a,l.length,h1,Nat.le_refl _,h2,h3⟩
theorem abN{n s clk:Nat}{f:Nat→PV}{rows:Rows}(l:List (List PV))(q:PV)(hs:f s = .gU l)(hq:q = .sl l):Gh n ⟨f,rows,clk⟩ ⟨put f (some s) q,rows,clk⟩:=by
 rintro w0 S0 G a w ⟨⟨c,rfl,qH,eY,hI,hf,hG⟩,h7,h8⟩
 refine⟨⟨c,rfl,qH,eY,hI,fun t=>?_,hG⟩,h7,h8⟩
 simp only [put]
 split
 ·rename_i ht
  subst ht
  have h1:=hf t
  simp only at h1
  rw [hs]at h1
  subst hq
  simp only [aH]at h1 ⊢
  exact abM h1
 ·exact hf t
theorem W.ast{E:Env}{n:Nat}{tl:Nat→Nat}{Q:PX→PS→Prop}{c:Code}{f:Nat→PV}{rows:Rows}{clk:Nat}(s:Nat)(l:List (List PV))(q:PV)(hs:f s = .gU l)(hq:q = .sl l)(h:∀K:PS→Prop,(∀σ,W E n tl c Q σ→K σ)→K ⟨put f (some s) q,rows,clk⟩):W E n tl c Q ⟨f,rows,clk⟩:=W.ghost (abN l q hs hq) (h _ fun _ h=>h)
def yI(rows:Rows)(id:Nat):Option Row→Option Row
 | some r=>some { r with els:=r.els.map fun e=>e.map (FX rows id) }
 | none=>none
def A6(rows:Rows)(id:Nat):Rows:=fun j=>if j=id then none else yI rows id (rows j)
@[simp] theorem aqD{rows:Rows}{id j:Nat}:A6 rows id j=if j=id then none else yI rows id (rows j):=rfl
@[simp] theorem aez{rows:Rows}{id v e n:Nat}{els:List (List PV)}:yI rows id (some ⟨v,e,n,els⟩)=some ⟨v,e,n,els.map fun e=>e.map (FX rows id)⟩:=rfl
@[simp] theorem aeA{rows:Rows}{id:Nat}:yI rows id none=none:=rfl
@[simp] theorem aqE{rows:Rows}{id i ver off len:Nat}:FX rows id (.own i ver off len)=if i=id then fzR (rows i) ver off len else .own i ver off len:=rfl
@[simp] theorem aqF{rows:Rows}{id i ver a j:Nat}:FX rows id (.ptr i ver a j)=if i=id then fzP (rows i) ver a j else .ptr i ver a j:=rfl
theorem LX{n clk:Nat}{l:List (Nat × PV)}{rows:Rows}(id:Nat)(hp:cK (rows id)):Gh n ⟨fa l,rows,clk⟩ ⟨fa (l.map fun p=>(p.1,D7 rows id p.2)),A6 rows id,clk⟩:=by
 rintro w0 S0 G a w ⟨⟨c,rfl,qH,eY,hI,hf,hG⟩,h7,h8⟩
 have W6:c.rows=rows:=qH
 subst W6
 have GC:=hI.freeze [id]
 have live:∀ {j:Nat} {r':Row},A6 c.rows id j=some r'→j≠id ∧ ∃r,c.rows j=some r∧r' = { r with els:=r.els.map fun e=>e.map (FX c.rows id) }:=by
  intro j r' h
  simp only [A6]at h
  split at h
  ·cases h
  ·rename_i hj
   cases hr:c.rows j with
   | none=>rw [hr]at h;cases h
   | some r=>rw [hr]at h;simp only [yI,Option.some.injEq]at h;exact⟨hj,r,rfl,h.symm⟩
 have hA:qE (AE c [id]) { AE c [id]with rows:=A6 c.rows id }:=by
  refine⟨fun _ _ h=>h,fun _ _ _=>rfl,fun _ h=>h,fun j r' h=>?_⟩
  obtain⟨hj,r,hr,rfl⟩:=live h
  exact .inr ⟨r,by simp [AE,AN,hj,hr],rfl,rfl,by simp,rfl⟩
 have hI2:Inv w0 S0 { AE c [id]with rows:=A6 c.rows id }:=by
  refine⟨GC.below,GC.ext,GC.new,GC.lt0,fun j r' h=>?_,fun j r' h=>?_,fun i j r s g hr hs=>?_⟩
  ·obtain⟨hj,r,hr,rfl⟩:=live h
   exact hI.clock j r hr
  ·obtain⟨hj,r,hr,rfl⟩:=live h
   obtain⟨⟨xs,g1,g2,g3⟩,g4,g5,g6⟩:=hI.row j r hr
   obtain⟨_,_,f5,_⟩:=GC.row j r (by simp [AE,AN,hj,hr])
   refine⟨⟨xs,by rw [List.length_map];exact g1,?_,g3⟩,fun e he=>?_,f5,g6⟩
   ·show a9 _ (List.flatten (r.els.map fun e=>e.map (FX c.rows id))) xs
    rw [←List.map_flatten]
    refine a9.dA (by rw [List.length_map];exact g2.length) fun k p u tU hu=>?_
    rw [List.getElem?_map]at tU
    obtain⟨q,hq,rfl⟩:=Option.map_eq_some_iff.1 tU
    obtain⟨u',QR,jW⟩:=g2.get hq
    rw [hu]at QR;cases QR
    exact aN.qY hA _ _ (D8 hI hp jW)
   ·simp only [List.mem_map]at he
    obtain⟨e',pL,rfl⟩:=he
    simpa using g4 e' pL
  ·obtain⟨hi,r1,LY,rfl⟩:=live hr
   obtain⟨hj,r2,dY,rfl⟩:=live hs
   exact hI.apart i j r1 r2 g LY dY
 refine⟨⟨{ AE c [id]with rows:=A6 c.rows id },rfl,rfl,eY,hI2,fun s=>?_,fun p hp=>aH.qY hA _ _ (aH.qY (kE c [id]) _ _ (hG p hp))⟩,h7,h8⟩
 show aH _ (fa (l.map fun p=>(p.1,D7 c.rows id p.2)) s) _
 rw [←W5 (g:=D7 c.rows id) B4]
 exact aH.qY hA _ _ (OS hI hp (hf s))
theorem W.D9{E:Env}{n:Nat}{tl:Nat→Nat}{Q:PX→PS→Prop}{c:Code}{l:List (Nat × PV)}{rows:Rows}{clk:Nat}(id:Nat)(hp:cK (rows id))(h:∀K:PS→Prop,(∀σ,W E n tl c Q σ→K σ)→K ⟨fa (l.map fun p=>(p.1,D7 rows id p.2)),A6 rows id,clk⟩):W E n tl c Q ⟨fa l,rows,clk⟩:=W.ghost (LX id hp) (h _ fun _ h=>h)
end Pm

namespace Pm
open Go
theorem bM(l:List Nat){E:Env}{n:Nat}{tl:Nat→Nat}{c:Code}{Q:PX→PS→Prop}{f:Nat→PV}{rows:Rows}{clk:Nat}{X:Prop}(hX:X)(h:X→aW (Bx.mk (P:=W E n tl c Q)) ⟨fa (l.map fun i=>(i,f i)),rows,clk⟩:=by intro hX;simp;exact hX):aW (Bx.mk (P:=W E n tl c Q)) ⟨f,rows,clk⟩:=W.lx l (h hX)
theorem jM{X G:Prop}(hX:X)(h:X→G:=by intro hX;refine W.sr ?_;simp (disch:=omega) [gw];exact hX):G:=h hX
theorem sB{X G:Prop}(hX:X)(h:X→G:=by intro hX;refine W.sd ?_;simp (disch:=omega) [gw];exact hX):G:=h hX
theorem cX{P X G:Prop}(hP:P)(hX:X)(h:P→X→G:=by intro hP hX;refine aC hP ?_;simp (disch:=omega) [gw];exact hX):G:=h hP hX
section
variable (l:List Nat) {E:Env} {n:Nat} {tl:Nat→Nat} {c:Code} {Q:PX→PS→Prop} {f:Nat→PV} {rows:Rows} {clk:Nat} {P X G:Prop}
theorem aA(hX:X)(h1:aW (Bx.mk (P:=W E n tl c Q)) ⟨f,rows,clk⟩→G:=by intro hY;refine W.sr ?_;simp (disch:=omega) [gw];exact hY)(h2:X→aW (Bx.mk (P:=W E n tl c Q)) ⟨fa (l.map fun i=>(i,f i)),rows,clk⟩:=by intro hX;simp;exact hX):G:=h1 (W.lx l (h2 hX))
theorem aR(hX:X)(h1:aW (Bx.mk (P:=W E n tl c Q)) ⟨f,rows,clk⟩→G:=by intro hY;refine W.seq ?_;refine W.sr ?_;simp (disch:=omega) [gw];exact hY)(h2:X→aW (Bx.mk (P:=W E n tl c Q)) ⟨fa (l.map fun i=>(i,f i)),rows,clk⟩:=by intro hX;simp;exact hX):G:=h1 (W.lx l (h2 hX))
theorem cL(hX:X)(h1:aW (Bx.mk (P:=W E n tl c Q)) ⟨f,rows,clk⟩→G:=by intro hY;refine W.sr ?_;simp (disch:=omega) [gw];exact hY)(h2:X→aW (Bx.mk (P:=W E n tl c Q)) ⟨fa (l.map fun i=>(i,f i)),rows,clk⟩:=by intro hX;simp;refine W.seq ?_;exact hX):G:=h1 (W.lx l (h2 hX))
theorem a7(hP:P)(hX:X)(h1:P→aW (Bx.mk (P:=W E n tl c Q)) ⟨f,rows,clk⟩→G:=by intro hP hY;refine W.sr ?_;simp (disch:=omega) [gw];refine aC hP ?_;simp (disch:=omega) [gw];exact hY)(h2:X→aW (Bx.mk (P:=W E n tl c Q)) ⟨fa (l.map fun i=>(i,f i)),rows,clk⟩:=by intro hX;simp;exact hX):G:=h1 hP (W.lx l (h2 hX))
theorem cV(hP:P)(hX:X)(h1:P→aW (Bx.mk (P:=W E n tl c Q)) ⟨f,rows,clk⟩→G:=by intro hP hY;refine aC hP ?_;simp (disch:=omega) [gw];exact hY)(h2:X→aW (Bx.mk (P:=W E n tl c Q)) ⟨fa (l.map fun i=>(i,f i)),rows,clk⟩:=by intro hX;simp;exact hX):G:=h1 hP (W.lx l (h2 hX))
end
theorem bP{X Y G:Prop}(hX:X)(hY:Y)(h:X→Y→G:=by intro hX hY;refine W.cond ⟨_,rfl,?_,?_⟩;exact hX;exact hY):G:=h hX hY
theorem fC{X G:Prop}(hX:X)(h:X→G:=by intro hX;refine W.exit ?_;simp only [pX,if_true,if_false,reduceIte,Nat.reduceEqDiff];exact hX):G:=h hX
theorem cR{G:Prop}(h:G:=by refine W.ret ?_;simp [go]):G:=h
theorem kK{X G:Prop}(hX:X)(h:X→G:=by intro hX;refine W.skip ?_;refine W.seq ?_;refine W.block ?_;exact hX):G:=h hX
end Pm
