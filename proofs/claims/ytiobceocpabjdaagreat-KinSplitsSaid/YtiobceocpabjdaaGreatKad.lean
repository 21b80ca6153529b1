import Derived.Test.YtiobceocpabjdaaGreatKac
set_option linter.unusedSimpArgs false
set_option linter.unusedVariables false
namespace Pm
open Go Go.RowKit
def emap{α:Type}(g:α→List PV)(l:List α):List (List PV):=l.map g
def aH{α:Type}(g:α→List PV)(l:List α):PV:=.sl (emap g l)
def nth{α:Type}[Inhabited α](l:List α)(i:Nat):α:=l[i]?.getD default
def Enc{α:Type}(g:α→List PV)(n:Nat):Prop:=∀x,(g x).length=n
def at5{α:Type}(g:α→List PV):Prop:=∀x,(g x).all bL=true
def bV(o:Option Row)(ver:Nat)(K:Row→Prop):Prop:=∃r,o=some r∧r.ver=ver∧K r
@[congr] theorem ahh{o o':Option Row}{ver:Nat}{K:Row→Prop}(h:o=o'):bV o ver K=bV o' ver K:=by rw [h]
@[simp] theorem ah8{r:Row}{ver:Nat}{K:Row→Prop}:bV (some r) ver K=aJ (r.ver=ver) (K r):=by simp [bV,aJ]
def HT(els:List (List PV))(i:Nat)(K:List PV→Prop):Prop:=∃el,els[i]? = some el∧K el
@[congr] theorem arL{l l':List (List PV)}{i i':Nat}{K:List PV→Prop}(h:l=l')(hi:i=i'):HT l i K=HT l' i' K:=by rw [h,hi]
@[simp] theorem ON{α:Type}[Inhabited α]{g:α→List PV}{l:List α}{i:Nat}{K:List PV→Prop}:HT (emap g l) i K=aJ (i<l.length) (K (g (nth l i))):=by
 simp only [HT,emap,aJ,nth]
 apply propext
 constructor
 ·rintro⟨el,h1,h2⟩
  simp at h1
  obtain⟨x,h1,rfl⟩:=h1
  have:=(List.getElem?_eq_some_iff.1 h1).1
  rw [h1]
  exact⟨this,h2⟩
 ·rintro⟨h1,h2⟩
  rw [List.getElem?_eq_getElem h1]at h2
  exact⟨g l[i],by simp [h1],h2⟩
@[simp] theorem at6{e:List PV}{es:List (List PV)}{K:List PV→Prop}:HT (e::es) 0 K=go (K e):=by show _=K e;simp [HT]
@[simp] theorem at7{e:List PV}{es:List (List PV)}{i:Nat}{K:List PV→Prop}:HT (e::es) (i+1) K=HT es i K:=by simp [HT]
def m9{α:Type}(l:List α)(i:Nat):Option α:=l[i]?
@[simp] theorem arM{α:Type}{x:α}{l:List α}:m9 (x::l) 0=some x:=rfl
@[simp] theorem arN{α:Type}{x:α}{l:List α}{n:Nat}:m9 (x::l) (n+1)=m9 l n:=rfl
def gJ{α:Type}(o:Option α)(K:α→Prop):Prop:=∃v,o=some v∧K v
@[congr] theorem an1{α:Type}{o o':Option α}{K:α→Prop}(h:o=o'):gJ o K=gJ o' K:=by rw [h]
@[simp] theorem arO{α:Type}{x:α}{K:α→Prop}:gJ (some x) K=go (K x):=by show _=K x;simp [gJ]
def AR(ti:TI)(l:List PV)(j:Nat)(K:PV→Prop):Prop:=if ti.agg=true then aJ (j+ti.size≤l.length) (K (.ag ((l.drop j).take ti.size)))else gJ (m9 l j) K
@[congr] theorem arP{t t':TI}{l l':List PV}{j:Nat}{K:PV→Prop}(h1:t=t')(h2:l=l'):AR t l j K=AR t' l' j K:=by rw [h1,h2]
@[simp] theorem aym{k:IntKind}{l:List PV}{j:Nat}{K:PV→Prop}:AR (.int k) l j K=gJ (m9 l j) K:=by simp [AR,TI.agg]
@[simp] theorem at8{l:List PV}{j:Nat}{K:PV→Prop}:AR .bool l j K=gJ (m9 l j) K:=by simp [AR,TI.agg]
@[simp] theorem ayn{l:List PV}{j:Nat}{K:PV→Prop}:AR .str l j K=gJ (m9 l j) K:=by simp [AR,TI.agg]
@[simp] theorem arQ{e n b:Nat}{z:List PV}{l:List PV}{j:Nat}{K:PV→Prop}:AR (.slice e n b z) l j K=gJ (m9 l j) K:=by simp [AR,TI.agg]
@[simp] theorem ayo{e m n:Nat}{z:List PV}{l:List PV}{j:Nat}{K:PV→Prop}:AR (.arr e m n z) l j K=aJ (j+z.length≤l.length) (K (.ag ((l.drop j).take z.length))):=by simp [AR,TI.agg,TI.size,TI.zero]
@[simp] theorem at9{l:List PV}{j:Nat}{K:PV→Prop}:AR .CZ l j K=gJ (m9 l j) K:=by simp [AR,TI.agg]
@[simp] theorem ayp{l:List PV}{j:Nat}{K:PV→Prop}:AR .fnT l j K=gJ (m9 l j) K:=by simp [AR,TI.agg]
@[simp] theorem an2{fs:List (Nat × Nat × Bool)}{z:List PV}{l:List PV}{j:Nat}{K:PV→Prop}:AR (.struct fs z) l j K=aJ (j+z.length≤l.length) (K (.ag ((l.drop j).take z.length))):=by simp [AR,TI.agg,TI.size,TI.zero]
def l8(E:Env)(t:TypeId)(rows:Rows)(p:PV)(K:PV→Prop):Prop:=
 aJ ((E.ty t).known=true) (match p with
 | .rd l=>AR (E.ty t) l 0 K
 | .ptr id ver i j=>bV (rows id) ver fun r=>HT r.els i fun el=>AR (E.ty t) el j K
 | _=>False)
@[congr] theorem ah9{E:Env}{t:TypeId}{rows:Rows}{p p':PV}{K:PV→Prop}(h:p=p'):l8 E t rows p K=l8 E t rows p' K:=by rw [h]
@[simp] theorem arR{E:Env}{t:TypeId}{rows:Rows}{l:List PV}{K:PV→Prop}:l8 E t rows (.rd l) K=aJ ((E.ty t).known=true) (AR (E.ty t) l 0 K):=rfl
@[simp] theorem an3{E:Env}{t:TypeId}{rows:Rows}{id ver i j:Nat}{K:PV→Prop}:l8 E t rows (.ptr id ver i j) K=aJ ((E.ty t).known=true) (bV (rows id) ver fun r=>HT r.els i fun el=>AR (E.ty t) el j K):=rfl
theorem OO{ti:TI}{l:List PV}{j:Nat}{K:PV→Prop}:aX (fun v=>if ti.agg=true then j+ti.size≤l.length∧v = .ag ((l.drop j).take ti.size)else l[j]? = some v) K=AR ti l j K:=by
 simp only [AR,gJ]
 split
 ·rw [kH,k9]
 ·rfl
theorem vQ{E:Env}{t:TypeId}{rows:Rows}{p:PV}{K:PV→Prop}:aX (fun v=>u0 E t rows p v) K=l8 E t rows p K:=by
 simp only [u0,l8]
 rw [kH]
 congr 1
 cases p with
 | rd l=>dsimp only;rw [←OO];simp [go]
 | ptr id ver i j =>
  simp only [bV,HT,←OO]
  apply propext;simp only [aX]
  constructor
  ·rintro⟨v,⟨r,h1,h2,el,h3,h4⟩,h5⟩;exact⟨r,h1,h2,el,h3,v,h4,h5⟩
  ·rintro⟨r,h1,h2,el,h3,v,h4,h5⟩;exact⟨v,⟨r,h1,h2,el,h3,h4⟩,h5⟩
 | _=>simp [aX]
def lA(ti:TI)(i:Nat)(x:PV)(K:PV→Prop):Prop:=
 match ti with
 | .struct fs _=>gJ (m9 fs i) fun p=>match x with
  | .ag l=>if p.2.2=true then K (.ag ((l.drop p.1).take p.2.1))else gJ (m9 l p.1) K
  | _=>False
 | _=>False
@[congr] theorem ahj{t t':TI}{i:Nat}{x x':PV}{K:PV→Prop}(h:t=t')(h2:x=x'):lA t i x K=lA t' i x' K:=by rw [h,h2]
def KE(p:Nat × Nat × Bool)(l:List PV)(K:PV→Prop):Prop:=if p.2.2=true then K (.ag ((l.drop p.1).take p.2.1))else gJ (m9 l p.1) K
@[simp] theorem arS{o n:Nat}{l:List PV}{K:PV→Prop}:KE (o,n,true) l K=go (K (.ag ((l.drop o).take n))):=by show _=K _;simp [KE]
@[simp] theorem an4{o n:Nat}{l:List PV}{K:PV→Prop}:KE (o,n,false) l K=gJ (m9 l o) K:=by simp [KE]
@[congr] theorem an5{p p':Nat × Nat × Bool}{l l':List PV}{K:PV→Prop}(h:p=p')(h2:l=l'):KE p l K=KE p' l' K:=by rw [h,h2]
@[simp] theorem an6{fs:List (Nat × Nat × Bool)}{z:List PV}{i:Nat}{l:List PV}{K:PV→Prop}:lA (.struct fs z) i (.ag l) K=gJ (m9 fs i) fun p=>KE p l K:=rfl
theorem AS{E:Env}{t:TypeId}{i:Nat}{x:PV}{K:PV→Prop}:aX (fun v=>vJ E t i x v) K=lA (E.ty t) i x K:=by
 simp only [vJ,lA]
 cases E.ty t with
 | struct fs z =>
  simp only [gJ]
  apply propext;simp only [aX]
  cases x with
  | ag l =>
   simp only
   constructor
   ·rintro⟨v,⟨o,n,b,h1,h2⟩,h3⟩
    refine⟨_,h1,?_⟩
    simp only
    split at h2
    ·rename_i hb;rw [if_pos hb,←h2];exact h3
    ·rename_i hb;rw [if_neg hb];exact⟨v,h2,h3⟩
   ·rintro⟨⟨o,n,b⟩,h1,h2⟩
    simp only at h2
    split at h2
    ·rename_i hb;exact⟨_,⟨o,n,b,h1,by rw [if_pos hb]⟩,h2⟩
    ·rename_i hb;obtain⟨v,h3,h4⟩:=h2;exact⟨v,⟨o,n,b,h1,by rw [if_neg hb];exact h3⟩,h4⟩
  | _=>simp
 | _=>simp [aX]
def eE(ti:TI)(rows:Rows)(i:Nat)(x:PV)(K:PV→Prop):Prop:=
 match ti with
 | .struct fs _=>gJ (m9 fs i) fun p=>match x with
  | .rd l=>aJ (p.1≤l.length) (K (.rd (l.drop p.1)))
  | .ptr id ver a j=>bV (rows id) ver fun _=>K (.ptr id ver a (j+p.1))
  | _=>False
 | _=>False
@[congr] theorem XJ{t t':TI}{rows:Rows}{i:Nat}{x x':PV}{K:PV→Prop}(h:t=t')(h2:x=x'):eE t rows i x K=eE t' rows i x' K:=by rw [h,h2]
@[simp] theorem adL{fs:List (Nat × Nat × Bool)}{z:List PV}{rows:Rows}{i:Nat}{l:List PV}{K:PV→Prop}:eE (.struct fs z) rows i (.rd l) K=gJ (m9 fs i) fun p=>aJ (p.1≤l.length) (K (.rd (l.drop p.1))):=rfl
@[simp] theorem acw{fs:List (Nat × Nat × Bool)}{z:List PV}{rows:Rows}{i id ver a j:Nat}{K:PV→Prop}:eE (.struct fs z) rows i (.ptr id ver a j) K=gJ (m9 fs i) fun p=>bV (rows id) ver fun _=>K (.ptr id ver a (j+p.1)):=rfl
theorem rM{E:Env}{t:TypeId}{rows:Rows}{i:Nat}{x:PV}{K:PV→Prop}:aX (fun v=>gG E t rows i x v) K=eE (E.ty t) rows i x K:=by
 simp only [gG,eE]
 cases E.ty t with
 | struct fs z =>
  simp only [gJ]
  apply propext;simp only [aX]
  cases x with
  | rd l =>
   simp only [aJ]
   constructor
   ·rintro⟨v,⟨o,n,b,h1,h2,rfl⟩,h3⟩;exact⟨_,h1,h2,h3⟩
   ·rintro⟨⟨o,n,b⟩,h1,h2,h3⟩;exact⟨_,⟨o,n,b,h1,h2,rfl⟩,h3⟩
  | ptr id ver a j =>
   simp only [bV]
   constructor
   ·rintro⟨v,⟨o,n,b,h1,⟨r,h2,h3⟩,rfl⟩,h4⟩;exact⟨_,h1,r,h2,h3,h4⟩
   ·rintro⟨⟨o,n,b⟩,h1,r,h2,h3,h4⟩;exact⟨_,⟨o,n,b,h1,⟨r,h2,h3⟩,rfl⟩,h4⟩
  | _=>simp
 | _=>simp [aX]
def bK(n:Nat)(l:List (List PV)):Prop:=∀e∈l,e.length=n
@[simp] theorem cL{α:Type}{g:α→List PV}{n:Nat}{l:List α}:(Enc g n)→bK n (emap g l)=True:=by
 intro h
 simp only [bK,emap,List.mem_map,eq_iff_iff,iff_true]
 rintro e ⟨x,_,rfl⟩
 exact h x
@[simp] theorem an7{n:Nat}:bK n []=True:=by simp [bK]
@[simp] theorem ale{n:Nat}{e:List PV}{l:List (List PV)}:bK n (e::l)=(e.length=n∧bK n l):=by simp [bK]
def cT(ti:TI)(rows:Rows)(x ix:PV)(K:PV→Prop):Prop:=
 match ti,ix with
 | .slice _ n _ _, .int _ k=>aJ (0≤k) (match x with
  | .sl l=>aJ (bK n l) (HT l k.toNat fun el=>K (.rd el))
  | .jA l=>aJ (bK n l) (HT l k.toNat fun el=>K (.rd el))
  | .own id ver off len=>bV (rows id) ver fun r=>aJ (r.size=n∧k.toNat<len) (K (.ptr id ver (off+k.toNat) 0))
  | _=>False)
 | .arr _ m n _, .int _ k=>aJ (0≤k∧k.toNat<m) (match x with
  | .rd l=>aJ (k.toNat*n≤l.length) (K (.rd (l.drop (k.toNat*n))))
  | .ptr id ver a j=>bV (rows id) ver fun _=>K (.ptr id ver a (j+k.toNat*n))
  | _=>False)
 | _,_=>False
@[congr] theorem XK{t t':TI}{rows:Rows}{x x' y y':PV}{K:PV→Prop}(h:t=t')(h2:x=x')(h3:y=y'):cT t rows x y K=cT t' rows x' y' K:=by rw [h,h2,h3]
section
variable {α:Type} [Inhabited α] {g:α→List PV} {l:List α} {e n b:Nat} {z:List PV} {rows:Rows} {kk:IntKind} {k:Int} {K:PV→Prop} {els:List (List PV)} {id ver off len:Nat}
@[simp] theorem acx:cT (.slice e n b z) rows (aH g l) (.int kk k) K=aJ (0≤k∧k.toNat<l.length) (aJ (bK n (emap g l)) (K (.rd (g (nth l k.toNat))))):=by
 simp only [cT,aH,ON,aJ,and_assoc]
 apply propext
 constructor
 ·rintro⟨h1,h2,h3,h4⟩;exact⟨h1,h3,h2,h4⟩
 ·rintro⟨h1,h2,h3,h4⟩;exact⟨h1,h3,h2,h4⟩
@[simp] theorem adM:cT (.slice e n b z) rows (.sl els) (.int kk k) K=aJ (0≤k) (aJ (bK n els) (HT els k.toNat fun el=>K (.rd el))):=rfl
@[simp] theorem acy:cT (.slice e n b z) rows (.jA els) (.int kk k) K=aJ (0≤k) (aJ (bK n els) (HT els k.toNat fun el=>K (.rd el))):=rfl
@[simp] theorem acz{m:Nat}{l:List PV}:cT (.arr e m n z) rows (.rd l) (.int kk k) K=aJ (0≤k∧k.toNat<m) (aJ (k.toNat*n≤l.length) (K (.rd (l.drop (k.toNat*n))))):=rfl
@[simp] theorem aaK{m a j:Nat}:cT (.arr e m n z) rows (.ptr id ver a j) (.int kk k) K=aJ (0≤k∧k.toNat<m) (bV (rows id) ver fun _=>K (.ptr id ver a (j+k.toNat*n))):=rfl
@[simp] theorem acA:cT (.slice e n b z) rows (.own id ver off len) (.int kk k) K=aJ (0≤k) (bV (rows id) ver fun r=>aJ (r.size=n∧k.toNat<len) (K (.ptr id ver (off+k.toNat) 0))):=rfl
end
theorem rN{E:Env}{t:TypeId}{rows:Rows}{x ix:PV}{K:PV→Prop}:aX (fun v=>gH E t rows x ix v) K=cT (E.ty t) rows x ix K:=by
 simp only [gH,cT]
 cases E.ty t with
 | slice e n b z =>
  cases ix with
  | int kk k =>
   simp only
   rw [kH]
   congr 1
   cases x with
   | sl l =>
    simp only [aJ,HT,bK]
    apply propext;simp only [aX]
    constructor
    ·rintro⟨v,⟨el,h1,h2,rfl⟩,h4⟩;exact⟨h2,el,h1,h4⟩
    ·rintro⟨h2,el,h1,h4⟩;exact⟨_,⟨el,h1,h2,rfl⟩,h4⟩
   | jA l =>
    simp only [aJ,HT,bK]
    apply propext;simp only [aX]
    constructor
    ·rintro⟨v,⟨el,h1,h2,rfl⟩,h4⟩;exact⟨h2,el,h1,h4⟩
    ·rintro⟨h2,el,h1,h4⟩;exact⟨_,⟨el,h1,h2,rfl⟩,h4⟩
   | own id ver off len =>
    simp only [aJ,bV]
    apply propext;simp only [aX]
    constructor
    ·rintro⟨v,⟨r,h1,h2,h3,h4,rfl⟩,h5⟩;exact⟨r,h1,h2,⟨h3,h4⟩,h5⟩
    ·rintro⟨r,h1,h2,⟨h3,h4⟩,h5⟩;exact⟨_,⟨r,h1,h2,h3,h4,rfl⟩,h5⟩
   | _=>simp [aX]
  | _=>simp [aX]
 | arr e m n z =>
  cases ix with
  | int kk k =>
   simp only
   rw [kH]
   congr 1
   cases x with
   | rd l =>
    simp only
    rw [kH,k9]
   | ptr id ver a j =>
    simp only [bV]
    apply propext;simp only [aX]
    constructor
    ·rintro⟨v,⟨⟨r,h1,h2⟩,rfl⟩,h3⟩;exact⟨r,h1,h2,h3⟩
    ·rintro⟨r,h1,h2,h3⟩;exact⟨_,⟨⟨r,h1,h2⟩,rfl⟩,h3⟩
   | _=>simp [aX]
  | _=>simp [aX]
 | _=>simp [aX]
def AU(d:Nat)(o:Option PV)(K:Nat→Prop):Prop:=
 match o with
 | none=>K d
 | some (.int _ k)=>aJ (0≤k) (K k.toNat)
 | some _=>False
@[congr] theorem arT{d d':Nat}{o o':Option PV}{K:Nat→Prop}(h:d=d')(h2:o=o'):AU d o K=AU d' o' K:=by rw [h,h2]
@[simp] theorem aua{d:Nat}{K:Nat→Prop}:AU d none K=go (K d):=rfl
@[simp] theorem aub{d:Nat}{kk:IntKind}{k:Int}{K:Nat→Prop}:AU d (some (.int kk k)) K=aJ (0≤k) (K k.toNat):=rfl
theorem UC{d:Nat}{o:Option PV}{K:Nat→Prop}:AU d o K ↔ ∃n,wQ d o n∧K n:=by
 cases o with
 | none=>simp [AU,wQ]
 | some p =>
  cases p with
  | int kk k =>
   simp only [AU,wQ,aJ]
   constructor
   ·rintro⟨h1,h2⟩;exact⟨_,⟨h1,rfl⟩,h2⟩
   ·rintro⟨n,⟨h1,rfl⟩,h2⟩;exact⟨h1,h2⟩
  | _=>simp [AU,wQ]
def aaL{α:Type}(mk mkx:List α→PV)(n:Nat)(l:List α)(ok:Prop)(lo hi mx:Option PV)(K:PV→Prop):Prop:=
 AU 0 lo fun a=>AU l.length hi fun b=>aJ (a≤b∧b≤l.length) (aJ ok (match mx with
  | none=>K (mk ((l.take b).drop a))
  | some m=>AU 0 (some m) fun c=>aJ (b=c∧hi.isSome=true) (K (mkx ((l.take b).drop a)))))
def gM(ti:TI)(rows:Rows)(x:PV)(lo hi mx:Option PV)(K:PV→Prop):Prop:=
 match ti with
 | .slice _ n _ _ =>
  match x with
  | .nil=>AU 0 lo fun a=>AU 0 hi fun b=>aJ (a=0∧b=0∧mx.isNone=true) (K .nil)
  | .sl l=>aaL .sl .jA n l (bK n l) lo hi mx K
  | .jA l=>aaL .sl .jA n l (bK n l) lo hi mx K
  | .own id ver off len=>bV (rows id) ver fun r=>aJ (r.size=n) (AU 0 lo fun a=>AU len hi fun b=>aJ (a≤b∧b≤len∧mx.isNone=true) (K (.own id ver (off+a) (b-a))))
  | _=>False
 | _=>False
@[congr] theorem ahk{t t':TI}{rows:Rows}{x x':PV}{lo F9 hi lW mx mx':Option PV}{K:PV→Prop}(h:t=t')(h2:x=x')(h3:lo=F9)(h4:hi=lW)(h5:mx=mx'):gM t rows x lo hi mx K=gM t' rows x' F9 lW mx' K:=by rw [h,h2,h3,h4,h5]
section
variable {α:Type} {g:α→List PV} {l:List α} {e n b:Nat} {z:List PV} {rows:Rows} {lo hi mx:Option PV} {K:PV→Prop} {els:List (List PV)} {id ver off len:Nat}
theorem OP{a b:Nat}:((emap g l).take b).drop a=emap g ((l.take b).drop a):=by simp [emap]
@[simp] theorem alf:gM (.slice e n b z) rows (aH g l) lo hi none K=AU 0 lo fun a=>AU l.length hi fun b=>aJ (a≤b∧b≤l.length) (aJ (bK n (emap g l)) (K (aH g ((l.take b).drop a)))):=by
 simp only [gM,aH,aaL,OP]
 simp [emap]
theorem KF{m:PV}:gM (.slice e n b z) rows (aH g l) lo hi (some m) K=AU 0 lo fun a=>AU l.length hi fun b=>aJ (a≤b∧b≤l.length) (aJ (bK n (emap g l)) (AU 0 (some m) fun c=>aJ (b=c∧hi.isSome=true) (K (.jA (emap g ((l.take b).drop a)))))):=by
 simp only [gM,aH,aaL,OP]
 simp [emap]
@[simp] theorem alg:gM (.slice e n b z) rows .nil lo hi mx K=AU 0 lo fun a=>AU 0 hi fun b=>aJ (a=0∧b=0∧mx.isNone=true) (K .nil):=rfl
@[simp] theorem alh:gM (.slice e n b z) rows (.own id ver off len) lo hi mx K=bV (rows id) ver fun r=>aJ (r.size=n) (AU 0 lo fun a=>AU len hi fun b=>aJ (a≤b∧b≤len∧mx.isNone=true) (K (.own id ver (off+a) (b-a)))):=rfl
end
theorem XL{l:List (List PV)}{n:Nat}{lo hi mx:Option PV}{K:PV→Prop}:(∃v,(∃a b,wQ 0 lo a∧wQ l.length hi b∧a≤b∧b≤l.length∧(∀e∈l,e.length=n)∧SU l a b hi mx v)∧K v)↔aaL .sl .jA n l (bK n l) lo hi mx K:=by
 simp only [aaL,UC,aJ,bK,SU]
 constructor
 ·rintro⟨v,⟨a,b,h1,h2,h3,h4,h5,h6⟩,h7⟩
  refine⟨a,h1,b,h2,⟨h3,h4⟩,h5,?_⟩
  cases mx with
  | none=>simp only at h6 ⊢;rw [←h6];exact h7
  | some m=>obtain⟨c,q1,q2,q3,rfl⟩:=h6;exact⟨c,q1,⟨q2,q3⟩,h7⟩
 ·rintro⟨a,h1,b,h2,⟨h3,h4⟩,h5,h6⟩
  cases mx with
  | none=>exact⟨_,⟨a,b,h1,h2,h3,h4,h5,rfl⟩,h6⟩
  | some m=>obtain⟨c,q1,⟨q2,q3⟩,h7⟩:=h6;exact⟨_,⟨a,b,h1,h2,h3,h4,h5,c,q1,q2,q3,rfl⟩,h7⟩
theorem AV{E:Env}{t:TypeId}{rows:Rows}{x:PV}{lo hi mx:Option PV}{K:PV→Prop}:aX (fun v=>pG E t rows x lo hi mx v) K=gM (E.ty t) rows x lo hi mx K:=by
 simp only [pG,gM]
 cases E.ty t with
 | slice e n b z =>
  cases x with
  | sl l=>exact propext XL
  | jA l=>exact propext XL
  | nil =>
   simp only [UC,aJ]
   apply propext;simp only [aX]
   constructor
   ·rintro⟨v,⟨a,b,h1,h2,h3,h4,h5,rfl⟩,h6⟩;exact⟨a,h1,b,h2,⟨h3,h4,h5⟩,h6⟩
   ·rintro⟨a,h1,b,h2,⟨h3,h4,h5⟩,h6⟩;exact⟨_,⟨a,b,h1,h2,h3,h4,h5,rfl⟩,h6⟩
  | own id ver off len =>
   simp only [UC,aJ,bV]
   apply propext;simp only [aX]
   constructor
   ·rintro⟨v,⟨r,q1,q2,q3,a,b,h1,h2,h3,h4,h5,rfl⟩,h6⟩;exact⟨r,q1,q2,q3,a,h1,b,h2,⟨h3,h4,h5⟩,h6⟩
   ·rintro⟨r,q1,q2,q3,a,h1,b,h2,⟨h3,h4,h5⟩,h6⟩;exact⟨_,⟨r,q1,q2,q3,a,b,h1,h2,h3,h4,h5,rfl⟩,h6⟩
  | _=>simp [aX]
 | _=>simp [aX]
def vF(rows:Rows)(x:PV)(K:PV→Prop):Prop:=
 match x with
 | .rd l=>K (.rd l)
 | .ptr id ver i j=>bV (rows id) ver fun _=>K (.ptr id ver i j)
 | _=>False
@[congr] theorem ali{rows:Rows}{x x':PV}{K:PV→Prop}(h:x=x'):vF rows x K=vF rows x' K:=by rw [h]
@[simp] theorem auc{rows:Rows}{l:List PV}{K:PV→Prop}:vF rows (.rd l) K=go (K (.rd l)):=rfl
@[simp] theorem arU{rows:Rows}{id ver i j:Nat}{K:PV→Prop}:vF rows (.ptr id ver i j) K=bV (rows id) ver fun _=>K (.ptr id ver i j):=rfl
theorem HU{rows:Rows}{x:PV}{K:PV→Prop}:aX (fun v=>GH rows x v) K=vF rows x K:=by
 simp only [GH,vF]
 cases x with
 | rd l=>dsimp only;rw [k9]
 | ptr id ver i j =>
  simp only [bV]
  apply propext;simp only [aX]
  constructor
  ·rintro⟨v,⟨⟨r,h1,h2⟩,rfl⟩,h3⟩;exact⟨r,h1,h2,h3⟩
  ·rintro⟨r,h1,h2,h3⟩;exact⟨_,⟨⟨r,h1,h2⟩,rfl⟩,h3⟩
 | _=>simp [aX]
def nG(ti:TI)(rows:Rows)(x:PV)(K:PV→Prop):Prop:=
 match ti with
 | .slice _ _ _ _=>match x with
  | .nil=>K (.int .i64 0)
  | .sl l=>K (.int .i64 l.length)
  | .jA l=>K (.int .i64 l.length)
  | .own id ver _ len=>bV (rows id) ver fun _=>K (.int .i64 len)
  | _=>False
 | _=>False
@[congr] theorem alj{t t':TI}{rows:Rows}{x x':PV}{K:PV→Prop}(h:t=t')(h2:x=x'):nG t rows x K=nG t' rows x' K:=by rw [h,h2]
section
variable {α:Type} {g:α→List PV} {l:List α} {e n b:Nat} {z:List PV} {rows:Rows} {K:PV→Prop} {els:List (List PV)} {id ver off len:Nat}
@[simp] theorem arV:nG (.slice e n b z) rows (aH g l) K=go (K (.int .i64 l.length)):=by show _=K _;simp [nG,aH,emap]
@[simp] theorem arW:nG (.slice e n b z) rows .nil K=go (K (.int .i64 0)):=rfl
@[simp] theorem aud:nG (.slice e n b z) rows (.sl els) K=go (K (.int .i64 els.length)):=rfl
@[simp] theorem arX:nG (.slice e n b z) rows (.jA els) K=go (K (.int .i64 els.length)):=rfl
@[simp] theorem arY:nG (.slice e n b z) rows (.own id ver off len) K=bV (rows id) ver fun _=>K (.int .i64 len):=rfl
end
theorem HV{ti:TI}{rows:Rows}{x:PV}{K:PV→Prop}:aX (fun v=>AB ti rows x v) K=nG ti rows x K:=by
 simp only [AB,nG]
 cases ti with
 | slice e n b z =>
  apply propext;simp only [aX,aaf]
  cases x with
  | own id ver off len =>
   simp only [bV]
   constructor
   ·rintro⟨v,⟨n,⟨⟨r,h1,h2⟩,rfl⟩,rfl⟩,h4⟩;exact⟨r,h1,h2,h4⟩
   ·rintro⟨r,h1,h2,h4⟩;exact⟨_,⟨_,⟨⟨r,h1,h2⟩,rfl⟩,rfl⟩,h4⟩
  | _=>simp
 | _=>simp [aX]
def iO(els:List (List PV))(i j:Nat)(l:List PV):List (List PV):=els.set i (((els[i]?).getD []).take j++l++((els[i]?).getD []).drop (j+l.length))
def vG(els:List (List PV))(i n:Nat):Prop:=∃el,els[i]? = some el∧n≤el.length
def iY(rows:Rows)(l:List PV):Prop:=∀q∈l,iT rows q
@[simp] theorem an8{rows:Rows}:iY rows []=True:=by simp [iY]
@[simp] theorem alk{rows:Rows}{p:PV}{l:List PV}:iY rows (p::l)=(iT rows p∧iY rows l):=by simp [iY]
@[simp] theorem an9{α:Type}[Inhabited α]{g:α→List PV}{l:List α}{i n:Nat}:vG (emap g l) i n=(i<l.length∧n≤(g (nth l i)).length):=by
 exact ON (g:=g) (l:=l) (i:=i) (K:=fun el=>n≤el.length)
def lB(E:Env)(t:TypeId)(rows:Rows)(p x:PV)(K:Nat→Row→Prop):Prop:=
 aJ ((E.ty t).known=true) (match p with
 | .ptr id ver i j=>bV (rows id) ver fun r=>gJ (cQ x) fun l=>aJ (vG r.els i (j+l.length)∧iY rows l∧l.length=(E.ty t).size) (K id ⟨ver,r.e,r.size,iO r.els i j l⟩)
 | _=>False)
@[congr] theorem ahl{E:Env}{t:TypeId}{rows:Rows}{p p' x x':PV}{K:Nat→Row→Prop}(h1:p=p')(h2:x=x'):lB E t rows p x K=lB E t rows p' x' K:=by rw [h1,h2]
@[simp] theorem alm{E:Env}{t:TypeId}{rows:Rows}{id ver i j:Nat}{x:PV}{K:Nat→Row→Prop}:lB E t rows (.ptr id ver i j) x K=aJ ((E.ty t).known=true) (bV (rows id) ver fun r=>gJ (cQ x) fun l=>aJ (vG r.els i (j+l.length)∧iY rows l∧l.length=(E.ty t).size) (K id ⟨ver,r.e,r.size,iO r.els i j l⟩)):=rfl
theorem HW{E:Env}{t:TypeId}{rows:Rows}{p x:PV}{K:Nat→Row→Prop}:(∃id r,sF E t rows p x .undef (some (id,r))∧K id r)=lB E t rows p x K:=by
 simp only [sF,lB,aJ,bV,gJ,vG,iY]
 apply propext
 constructor
 ·rintro⟨id,r,⟨h1,_,h2⟩,h3⟩
  refine⟨h1,?_⟩
  split at h2
  ·obtain⟨r0,q1,q2,el,q3,l,q4,q5,q6,q7,q8⟩:=h2
   simp only [Option.some.injEq,Prod.mk.injEq]at q8
   obtain⟨rfl,rfl⟩:=q8
   refine⟨r0,q1,q2,l,q4,⟨⟨el,q3,q7⟩,q5,q6⟩,?_⟩
   simp only [iO,q3,Option.getD_some]
   rw [q2]at h3
   exact h3
  ·exact h2.elim
 ·rintro⟨h1,h2⟩
  split at h2
  ·obtain⟨r0,q1,q2,l,q4,⟨⟨el,q3,q7⟩,q5,q6⟩,h3⟩:=h2
   simp only [iO,q3,Option.getD_some]at h3
   refine⟨_,_,⟨h1,trivial,r0,q1,q2,el,q3,l,q4,q5,q6,q7,rfl⟩,?_⟩
   rw [←q2]at h3
   exact h3
  ·exact h2.elim
def lC(rows:Rows)(y:PV)(K:List (List PV)→Prop):Prop:=
 match y with
 | .nil=>K []
 | .sl k=>K k
 | .jA k=>K k
 | .own id ver off len=>bV (rows id) ver fun r=>K ((r.els.drop off).take len)
 | _=>False
@[congr] theorem aln{rows:Rows}{y y':PV}{K:List (List PV)→Prop}(h:y=y'):lC rows y K=lC rows y' K:=by rw [h]
@[simp] theorem arZ{rows:Rows}{K:List (List PV)→Prop}:lC rows .nil K=go (K []):=rfl
@[simp] theorem aue{rows:Rows}{l:List (List PV)}{K:List (List PV)→Prop}:lC rows (.sl l) K=go (K l):=rfl
@[simp] theorem ar0{α:Type}{g:α→List PV}{rows:Rows}{l:List α}{K:List (List PV)→Prop}:lC rows (aH g l) K=go (K (emap g l)):=rfl
@[simp] theorem ar1{rows:Rows}{l:List (List PV)}{K:List (List PV)→Prop}:lC rows (.jA l) K=go (K l):=rfl
@[simp] theorem ar2{rows:Rows}{id ver off len:Nat}{K:List (List PV)→Prop}:lC rows (.own id ver off len) K=bV (rows id) ver fun r=>K ((r.els.drop off).take len):=rfl
theorem XM{rows:Rows}{y:PV}{K:List (List PV)→Prop}:(∃l,sG rows y l∧K l)=lC rows y K:=by
 simp only [sG,lC]
 apply propext
 cases y with
 | own id ver off len =>
  simp only [bV]
  constructor
  ·rintro⟨l,⟨r,h1,h2,rfl⟩,h3⟩;exact⟨r,h1,h2,h3⟩
  ·rintro⟨r,h1,h2,h3⟩;exact⟨_,⟨r,h1,h2,rfl⟩,h3⟩
 | _=>simp
def jY(c:Prop)(len:Nat)(els:List (List PV))(K:List (List PV)→Prop):Prop:=(c∧K els)∨(¬c∧len≤els.length∧K (els.take len))
@[congr] theorem ahm{c c':Prop}{len auf:Nat}{els BQ:List (List PV)}{K:List (List PV)→Prop}(h:c=c')(h1:len=auf)(h2:els=BQ):jY c len els K=jY c' auf BQ K:=by rw [h,h1,h2]
theorem KG{len:Nat}{els:List (List PV)}{K:List (List PV)→Prop}:jY True len els K=K els:=by simp [jY]
theorem XN{len:Nat}{els:List (List PV)}{K:List (List PV)→Prop}:jY (len=els.length) len els K=(len≤els.length∧K (els.take len)):=by
 apply propext
 constructor
 ·rintro(⟨h,hK⟩ | ⟨_,h,hK⟩)
  ·exact⟨by omega,by rw [List.take_of_length_le (by omega)];exact hK⟩
  ·exact⟨h,hK⟩
 ·rintro⟨h,hK⟩
  by_cases hc:len=els.length
  ·exact .inl ⟨hc,by rw [List.take_of_length_le (by omega)]at hK;exact hK⟩
  ·exact .inr ⟨hc,h,hK⟩
def sN(t:TI)(rows:Rows)(x y:PV)(clk d:Nat)(K:PV→Rows→Nat→Prop):Prop:=
 match t with
 | .slice e n b _=>lC rows y fun l=>aJ (bK n l) (match x with
  | .nil=>aJ (l.length≤room∧l.length*b≤room) (K (.own d clk 0 l.length) (eC rows d (some ⟨clk,e,n,l⟩)) (clk+1))
  | .own id ver off len=>bV (rows id) ver fun r=>aJ (off=0∧r.e=e∧r.size=n) (jY (len=r.els.length) len r.els fun els=>aJ (len+l.length≤room∧(len+l.length)*b≤room) (K (.own id clk 0 (len+l.length)) (eC rows id (some ⟨clk,e,n,els++l⟩)) (clk+1)))
  | .jA l0=>aJ (bK n l0 ∧ ∀e∈l,∀p∈e,bL p=true) (aJ (l0.length+l.length≤room∧(l0.length+l.length)*b≤room) (K (.sl (l0++l)) rows clk))
  | _=>False)
 | _=>False
@[congr] theorem alp{t t':TI}{rows:Rows}{x x' y y':PV}{clk d:Nat}{K:PV→Rows→Nat→Prop}(h1:t=t')(h3:x=x')(h4:y=y') :
  sN t rows x y clk d K=sN t' rows x' y' clk d K:=by rw [h1,h3,h4]
section
variable {e n b clk d id ver off len:Nat} {z:List PV} {rows:Rows} {y:PV} {K:PV→Rows→Nat→Prop} {l0:List (List PV)}
@[simp] theorem ar3:sN (.slice e n b z) rows .nil y clk d K=lC rows y fun l=>aJ (bK n l) (aJ (l.length≤room∧l.length*b≤room) (K (.own d clk 0 l.length) (eC rows d (some ⟨clk,e,n,l⟩)) (clk+1))):=rfl
@[simp] theorem ar4:sN (.slice e n b z) rows (.own id ver off len) y clk d K=lC rows y fun l=>aJ (bK n l) (bV (rows id) ver fun r=>aJ (off=0∧r.e=e∧r.size=n) (jY (len=r.els.length) len r.els fun els=>aJ (len+l.length≤room∧(len+l.length)*b≤room) (K (.own id clk 0 (len+l.length)) (eC rows id (some ⟨clk,e,n,els++l⟩)) (clk+1)))):=rfl
@[simp] theorem ar5:sN (.slice e n b z) rows (.jA l0) y clk d K=lC rows y fun l=>aJ (bK n l) (aJ (bK n l0 ∧ ∀e∈l,∀p∈e,bL p=true) (aJ (l0.length+l.length≤room∧(l0.length+l.length)*b≤room) (K (.sl (l0++l)) rows clk))):=rfl
end
theorem aia{t:TI}{rows:Rows}{x y:PV}{clk d:Nat}{K:PV→Rows→Nat→Prop}:aaD t rows x y clk d K=sN t rows x y clk d K:=by
 unfold aaD sN
 cases t with
 | slice e n b z =>
  dsimp only
  rw [←XM]
  congr 1;funext l;congr 1
  simp only [aJ,bK]
  congr 1
  cases x with
  | own id ver off len =>
   simp only [bV,XN]
   apply propext
   constructor
   ·rintro⟨r,h1,h2,h3,h4,h5,h6,h7⟩;exact⟨r,h1,h2,⟨h3,h5,h6⟩,h4,h7⟩
   ·rintro⟨r,h1,h2,⟨h3,h5,h6⟩,h4,h7⟩;exact⟨r,h1,h2,h3,h4,h5,h6,h7⟩
  | jA l0=>simp only [bK,and_assoc]
  | _=>rfl
 | _=>rfl
def fzR(o:Option Row)(ver off len:Nat):PV:=
 match o with
 | some r=>if r.ver=ver then .sl ((r.els.drop off).take len)else .undef
 | none => .undef
@[simp] theorem aAv{rows:Rows}{id ver off len:Nat}:fz rows (.own id ver off len)=fzR (rows id) ver off len:=rfl
@[simp] theorem aug{α:Type}{g:α→List PV}{l:List α}{ver e n off len:Nat}:fzR (some ⟨ver,e,n,emap g l⟩) ver off len=aH g ((l.drop off).take len):=by simp [fzR,aH,emap]
@[simp] theorem aAw{rows:Rows}:fz rows .nil = .sl []:=rfl
@[simp] theorem aAx{rows:Rows}{l:List (List PV)}:fz rows (.jA l) = .sl l:=rfl
@[simp] theorem aDN{rows:Rows}{l:List (List PV)}:fz rows (.sl l) = .sl l:=rfl
@[simp] theorem aAy{α:Type}{g:α→List PV}{rows:Rows}{l:List α}:fz rows (aH g l)=aH g l:=rfl
@[simp] theorem aAz{rows:Rows}{k:IntKind}{n:Int}:fz rows (.int k n) = .int k n:=rfl
@[simp] theorem ayq{rows:Rows}{b:Bool}:fz rows (.bool b) = .bool b:=rfl
@[simp] theorem aDO{rows:Rows}{f:FuncId}{l:List PV}:fz rows (.fn f l) = .fn f l:=rfl
@[simp] theorem aAA{rows:Rows}{id ver off len:Nat}:pz rows (.own id ver off len)=fzR (rows id) ver off len:=rfl
@[simp] theorem aAB{rows:Rows}:pz rows .nil = .sl []:=rfl
@[simp] theorem aAC{rows:Rows}{l:List (List PV)}:pz rows (.jA l) = .sl l:=rfl
@[simp] theorem aDP{rows:Rows}{l:List (List PV)}:pz rows (.sl l) = .sl l:=rfl
@[simp] theorem aAD{α:Type}{g:α→List PV}{rows:Rows}{l:List α}:pz rows (aH g l)=aH g l:=rfl
@[simp] theorem aAE{rows:Rows}{k:IntKind}{n:Int}:pz rows (.int k n) = .int k n:=rfl
@[simp] theorem ayr{rows:Rows}{b:Bool}:pz rows (.bool b) = .bool b:=rfl
@[simp] theorem aDQ{rows:Rows}{f:FuncId}{l:List PV}:pz rows (.fn f l) = .fn f l:=rfl
@[simp] theorem aDR{rows:Rows}{l:List PV}:pz rows (.ag l) = .ag (l.map (fz rows)):=rfl
@[simp] theorem auh{α:Type}{g:α→List PV}{l:List α}:dI (aH g l)=true:=rfl
@[simp] theorem ar7{α:Type}{g:α→List PV}{l:List α}:bL (aH g l)=true:=rfl
@[simp] theorem ays{α:Type}{g:α→List PV}{l:List α}:aU (aH g l) = []:=rfl
@[simp] theorem aui{α:Type}{g:α→List PV}{l:List α}:eB (aH g l) = []:=rfl
@[simp] theorem ayt{l:List (List PV)}:eB (.sl l) = []:=rfl
@[simp] theorem auj{l:List (List PV)}:eB (.jA l) = []:=rfl
@[simp] theorem auk{k:IntKind}{n:Int}:eB (.int k n) = []:=rfl
@[simp] theorem ar8{b:Bool}:eB (.bool b) = []:=rfl
@[simp] theorem ayu{f:FuncId}{l:List PV}:eB (.fn f l) = []:=rfl
@[simp] theorem aul:eB .nil = []:=rfl
@[simp] theorem aum{id ver off len:Nat}:eB (.own id ver off len) = [id]:=rfl
@[simp] theorem ayv{l:List PV}:eB (.ag l)=l.flatMap aU:=rfl
@[simp] theorem aun{α:Type}{g:α→List PV}{rows:Rows}{l:List α}:iT rows (aH g l)=True:=rfl
@[simp] theorem aoa{α:Type}{g:α→List PV}{l:List α}:cQ (aH g l)=some [aH g l]:=rfl
@[simp] theorem aob{α:Type}{g:α→List PV}{l:List α}:fI (aH g l)=some [aH g l]:=rfl
def c9(o:Option Row):Prop:=∀r,o=some r → ∀e∈r.els,∀p∈e,bL p=true
@[simp] theorem aib{rows:Rows}:fC rows []=True:=by simp [fC]
@[simp] theorem ahn{rows:Rows}{id:Nat}{ids:List Nat}:fC rows (id::ids)=(c9 (rows id)∧fC rows ids):=by simp [fC,c9]
@[simp] theorem aic:c9 none=True:=by simp [c9]
@[simp] theorem b8{α:Type}{g:α→List PV}{l:List α}{ver e n:Nat}(h:at5 g):c9 (some ⟨ver,e,n,emap g l⟩)=True:=by
 simp only [c9,emap,Option.some.injEq,eq_iff_iff,iff_true]
 rintro r rfl e he p hp
 simp at he
 obtain⟨x,_,rfl⟩:=he
 exact List.all_eq_true.1 (h x) p hp
@[simp] theorem ayw{rows:Rows}:HL rows []=rows:=by funext j;simp [HL]
@[simp] theorem aAF{rows:Rows}{ids:List Nat}{j:Nat}:HL rows ids j=if j∈ids then none else rows j:=rfl
def n5(fs:List (Nat × Nat × Bool)):List (Nat × PV)→List PV→(List PV→Prop)→Prop
 | [],z,K=>K z
 | (i,p)::ps,z,K=>gJ (m9 fs i) fun q=>gJ (fI p) fun l=>aJ (l.length=q.2.1∧q.1+q.2.1≤z.length) (n5 fs ps (z.take q.1++l++z.drop (q.1+q.2.1)) K)
@[congr] theorem alq{fs:List (Nat × Nat × Bool)}{ps XO:List (Nat × PV)}{z z':List PV}{K:List PV→Prop}(h:ps=XO)(h2:z=z'):n5 fs ps z K=n5 fs XO z' K:=by rw [h,h2]
@[simp] theorem ar9{fs:List (Nat × Nat × Bool)}{z:List PV}{K:List PV→Prop}:n5 fs [] z K=go (K z):=rfl
@[simp] theorem aoc{fs:List (Nat × Nat × Bool)}{i:Nat}{p:PV}{ps:List (Nat × PV)}{z:List PV}{K:List PV→Prop}:n5 fs ((i,p)::ps) z K=gJ (m9 fs i) fun q=>gJ (fI p) fun l=>aJ (l.length=q.2.1∧q.1+q.2.1≤z.length) (n5 fs ps (z.take q.1++l++z.drop (q.1+q.2.1)) K):=rfl
theorem D0{fs:List (Nat × Nat × Bool)}:∀ {ps:List (Nat × PV)} {z:List PV} {K:List PV→Prop},(∃l,u3 fs ps z=some l∧K l)↔n5 fs ps z K
 | [],z,K=>by simp [u3,n5]
 | (i,p)::ps,z,K=>by
  simp only [u3,n5,gJ,aJ,m9]
  cases h1:fs[i]? with
  | none=>simp
  | some q =>
   obtain⟨o,n,b⟩:=q
   cases h2:fI p with
   | none=>simp
   | some l =>
    simp only [Option.some.injEq,exists_eq_left']
    rw [←D0]
    split
    ·rename_i h;simp [h]
    ·rename_i h;simp [h]
def mJ(ti:TI)(ps:List (Nat × PV))(K:PV→Prop):Prop:=
 match ti with
 | .struct fs z=>n5 fs ps z fun l=>K (.ag l)
 | .arr _ k n z=>n5 (SW k n) ps z fun l=>K (.ag l)
 | _=>False
@[congr] theorem aho{t t':TI}{ps XO:List (Nat × PV)}{K:PV→Prop}(h:t=t')(h2:ps=XO):mJ t ps K=mJ t' XO K:=by rw [h,h2]
@[simp] theorem adN{fs:List (Nat × Nat × Bool)}{z:List PV}{ps:List (Nat × PV)}{K:PV→Prop}:mJ (.struct fs z) ps K=n5 fs ps z fun l=>K (.ag l):=rfl
@[simp] theorem alr{e k n:Nat}{z:List PV}{ps:List (Nat × PV)}{K:PV→Prop}:mJ (.arr e k n z) ps K=n5 (SW k n) ps z fun l=>K (.ag l):=rfl
@[simp] theorem asa{k n i:Nat}:m9 (SW k n) i=if i<k then some (i*n,n,false)else none:=by
 unfold m9 SW
 rw [List.getElem?_map]
 split
 ·rename_i h;rw [List.getElem?_range h];rfl
 ·rename_i h;rw [List.getElem?_eq_none (by simpa using h)];rfl
theorem AW{ti:TI}{ps:List (Nat × PV)}{K:PV→Prop}:aX (fun v=>sA ti ps v) K=mJ ti ps K:=by
 simp only [sA,mJ]
 cases ti with
 | struct fs z =>
  apply propext;simp only [aX]
  rw [←D0]
  constructor
  ·rintro⟨v,⟨l,h1,rfl⟩,h2⟩;exact⟨l,h1,h2⟩
  ·rintro⟨l,h1,h2⟩;exact⟨_,⟨l,h1,rfl⟩,h2⟩
 | arr e k n z =>
  apply propext;simp only [aX]
  rw [←D0]
  constructor
  ·rintro⟨v,⟨l,h1,rfl⟩,h2⟩;exact⟨l,h1,h2⟩
  ·rintro⟨l,h1,h2⟩;exact⟨_,⟨l,h1,rfl⟩,h2⟩
 | _=>simp [aX]
def j6(n:Nat):Nat→List (Nat × PV)→(List (List PV)→Prop)→Prop
 | _,[],K=>K []
 | k,(i,p)::ps,K=>gJ (cQ p) fun l=>aJ (i=k∧l.length=n) (j6 n (k+1) ps fun els=>K (l::els))
@[congr] theorem aid{n k:Nat}{ps XO:List (Nat × PV)}{K:List (List PV)→Prop}(h:ps=XO):j6 n k ps K=j6 n k XO K:=by rw [h]
@[simp] theorem aod{n k:Nat}{K:List (List PV)→Prop}:j6 n k [] K=go (K []):=rfl
@[simp] theorem als{n k i:Nat}{p:PV}{ps:List (Nat × PV)}{K:List (List PV)→Prop}:j6 n k ((i,p)::ps) K=gJ (cQ p) fun l=>aJ (i=k∧l.length=n) (j6 n (k+1) ps fun els=>K (l::els)):=rfl
theorem zB{n:Nat}:∀ {ps:List (Nat × PV)} {k:Nat} {K:List (List PV)→Prop},(∃l,iU n k ps=some l∧K l)↔j6 n k ps K
 | [],k,K=>by simp [iU,j6]
 | (i,p)::ps,k,K=>by
  simp only [iU,j6,gJ,aJ]
  cases h2:cQ p with
  | none=>simp
  | some l =>
   simp only [Option.some.injEq,exists_eq_left']
   rw [←zB]
   by_cases h:i=k∧l.length=n
   ·rw [if_pos h]
    constructor
    ·rintro⟨e,h1,h3⟩
     obtain⟨e',h4,rfl⟩:=Option.map_eq_some_iff.1 h1
     exact⟨h,e',h4,h3⟩
    ·rintro⟨_,e',h4,h3⟩
     exact⟨_,by rw [h4];rfl,h3⟩
   ·rw [if_neg h];simp [h]
def D2(rows:Rows)(els:List (List PV)):Prop:=(∀e∈els,∀p∈e,bL (fz rows p)=true∧iT rows p)∧(∀e∈els,∀p∈e,aU p = [])
@[simp] theorem asb{rows:Rows}:D2 rows []=True:=by simp [D2]
@[simp] theorem aoe{rows:Rows}{e:List PV}{els:List (List PV)}:D2 rows (e::els)=((∀p∈e,bL (fz rows p)=true∧iT rows p∧aU p = [])∧D2 rows els):=by
 simp only [D2,List.mem_cons,forall_eq_or_imp,eq_iff_iff]
 constructor
 ·rintro⟨⟨h1,h2⟩,h3,h4⟩;exact⟨fun p hp=>⟨(h1 p hp).1,(h1 p hp).2,h3 p hp⟩,h2,h4⟩
 ·rintro⟨h1,h2,h4⟩;exact⟨⟨fun p hp=>⟨(h1 p hp).1,(h1 p hp).2.1⟩,h2⟩,fun p hp=>(h1 p hp).2.2,h4⟩
def xC(ti:TI)(rows:Rows)(len:Nat)(ps:List (Nat × PV))(K:PV→Prop):Prop:=
 match ti with
 | .slice _ n _ _=>j6 n 0 ps fun els=>aJ (len=els.length∧len≤4096∧n≤4096∧D2 rows els) (K (.jA (els.map fun e=>e.map (fz rows))))
 | _=>False
@[congr] theorem alu{t t':TI}{rows:Rows}{len:Nat}{ps XO:List (Nat × PV)}{K:PV→Prop}(h:t=t')(h2:ps=XO):xC t rows len ps K=xC t' rows len XO K:=by rw [h,h2]
@[simp] theorem alv{e n b:Nat}{z:List PV}{rows:Rows}{len:Nat}{ps:List (Nat × PV)}{K:PV→Prop}:xC (.slice e n b z) rows len ps K=j6 n 0 ps fun els=>aJ (len=els.length∧len≤4096∧n≤4096∧D2 rows els) (K (.jA (els.map fun e=>e.map (fz rows)))):=rfl
theorem HX{ti:TI}{rows:Rows}{len:Nat}{ps:List (Nat × PV)}{K:PV→Prop}:aX (fun v=>TE ti rows len ps v) K=xC ti rows len ps K:=by
 simp only [TE,xC]
 cases ti with
 | slice e n b z =>
  apply propext;simp only [aX]
  rw [←zB]
  constructor
  ·rintro⟨v,⟨l,h1,h2,h3,h4,h5,h6,rfl⟩,h7⟩;exact⟨l,h1,⟨h2,h3,h4,h5,h6⟩,h7⟩
  ·rintro⟨l,h1,⟨h2,h3,h4,h5,h6⟩,h7⟩;exact⟨_,⟨l,h1,h2,h3,h4,h5,h6,rfl⟩,h7⟩
 | _=>simp [aX]
def xD(i:Nat)(x:PV)(K:PV→Prop):Prop:=
 match x with
 | .dX l=>gJ (m9 l i) K
 | _=>False
@[congr] theorem alw{i:Nat}{x x':PV}{K:PV→Prop}(h:x=x'):xD i x K=xD i x' K:=by rw [h]
@[simp] theorem asc{i:Nat}{l:List PV}{K:PV→Prop}:xD i (.dX l) K=gJ (m9 l i) K:=rfl
theorem HY{i:Nat}{x:PV}{K:PV→Prop}:aX (fun v=>SV i x v) K=xD i x K:=by
 simp only [SV,xD]
 cases x<;>first | rfl | simp [aX]
def GX:List Oper→Nat→Option Tmp
 | [],_=>none
 | o::_,0=>o.dst
 | _::os,n+1=>GX os n
theorem KH:∀(ops:List Oper) (j:Nat),GX ops j=(ops[j]?).bind (·.dst)
 | [],j=>by simp [GX]
 | o::os,0=>by simp [GX]
 | o::os,n+1=>by simp [GX,KH os n]
@[simp] theorem asd{d:Option Tmp}{op:Op}{ty:TypeId}{pos:String}{af:Array Edge}{g:Option (Nat × Bool)}{os:List Oper}:GX (⟨d,op,ty,pos,af,g⟩::os) 0=d:=rfl
@[simp] theorem ase{o:Oper}{os:List Oper}{n:Nat}:GX (o::os) (n+1)=GX os n:=rfl
def qR(o:Option Tmp)(f:Nat→PV)(w:Bool)(A B:Prop):Prop:=
 match o with
 | none=>False
 | some e=>stepG (f e) w A B
@[congr] theorem aie{o o':Option Tmp}{f:Nat→PV}{w:Bool}{A B:Prop}(h:o=o'):qR o f w A B=qR o' f w A B:=by rw [h]
@[simp] theorem alx{e:Tmp}{f:Nat→PV}{w:Bool}{A B:Prop}:qR (some e) f w A B=stepG (f e) w A B:=rfl
@[simp] theorem asf{o:Option Tmp}{f:Nat→PV}{w:Bool}{A B:Prop}:go (qR o f w A B)=qR o f w A B:=rfl
section
variable {E:Env} {ops os:List Oper} {K:PS→Prop} {f:Nat→PV} {rows:Rows} {clk:Nat} {d:Option Tmp} {ty:TypeId} {pos:String} {af:Array Edge} {k:Nat} {bS:Nat→Nat→Prop} {aN:Nat→Nat→Prop}
theorem OQ{op:Op}{j:Nat}{want:Bool}:aO E ops (⟨d,op,ty,pos,af,some (j,want)⟩::os) K ⟨f,rows,clk⟩=qR ((ops[j]?).bind (·.dst)) f want (aO E ops (⟨d,op,ty,pos,af,none⟩::os) K ⟨f,rows,clk⟩) (aO E ops os K ⟨put f d (.dX []),rows,clk⟩):=TW
theorem OR{op:Op}{j:Nat}{want:Bool}:aQ E ops clk k (⟨d,op,ty,pos,af,some (j,want)⟩::os) K ⟨f,rows,bS,aN⟩=qR ((ops[j]?).bind (·.dst)) f want (aQ E ops clk k (⟨d,op,ty,pos,af,none⟩::os) K ⟨f,rows,bS,aN⟩) (aQ E ops clk (k+1) os K ⟨put f d (.dX []),rows,bS,aN⟩):=T5
end
section
variable {E:Env} {ops os:List Oper} {K:PS→Prop} {f:Nat→PV} {rows:Rows} {clk:Nat} {d:Option Tmp} {ty:TypeId} {pos:String} {af:Array Edge} {k:Nat} {bS:Nat→Nat→Prop} {aN:Nat→Nat→Prop}
theorem UD{t:TypeId}{x:Operand}:aO E ops (⟨d, .load t x,ty,pos,af,none⟩::os) K ⟨f,rows,clk⟩=l8 E t rows (aS f x) fun v=>aO E ops os K ⟨put f d v,rows,clk⟩:=by rw [aaC,vQ]
theorem OS{t:TypeId}{i:Nat}{x:Operand}:aO E ops (⟨d, .field t x i,ty,pos,af,none⟩::os) K ⟨f,rows,clk⟩=lA (E.ty t) i (aS f x) fun v=>aO E ops os K ⟨put f d v,rows,clk⟩:=by rw [TX,AS]
theorem BU{t:TypeId}{i:Nat}{x:Operand}:aO E ops (⟨d, .fieldAddr t x i,ty,pos,af,none⟩::os) K ⟨f,rows,clk⟩=eE (E.ty t) rows i (aS f x) fun v=>aO E ops os K ⟨put f d v,rows,clk⟩:=by rw [DU,rM]
theorem BV{t:TypeId}{x y:Operand}:aO E ops (⟨d, .indexAddr t x y,ty,pos,af,none⟩::os) K ⟨f,rows,clk⟩=cT (E.ty t) rows (aS f x) (aS f y) fun v=>aO E ops os K ⟨put f d v,rows,clk⟩:=by rw [DV,rN]
theorem OT{t:TypeId}{x:Operand}{lo hi mx:Option Operand}:aO E ops (⟨d, .slice t x lo hi mx,ty,pos,af,none⟩::os) K ⟨f,rows,clk⟩=gM (E.ty t) rows (aS f x) (lo.map (aS f)) (hi.map (aS f)) (mx.map (aS f)) fun v=>aO E ops os K ⟨put f d v,rows,clk⟩:=by rw [TY,AV]
theorem aaM{t:TypeId}{x:Operand}:aO E ops (⟨d, .call { callee:=.builtin .len,args:=⟨[x]⟩,argTypes:=⟨[t]⟩ },ty,pos,af,none⟩::os) K ⟨f,rows,clk⟩=nG (E.ty t) rows (aS f x) fun v=>aO E ops os K ⟨put f d v,rows,clk⟩:=by rw [adB,HV]
theorem OU{t:TypeId}{p x:Operand}:aO E ops (⟨none, .store t p x,ty,pos,af,none⟩::os) K ⟨f,rows,clk⟩=lB E t rows (aS f p) (aS f x) fun id r=>aO E ops os K ⟨f,eC rows id (some r),clk⟩:=by rw [T1,HW]
theorem KI{t t2:TypeId}{x y:Operand}:aO E ops (⟨d, .call { callee:=.builtin .append,args:=⟨[x,y]⟩,argTypes:=⟨[t,t2]⟩ },ty,pos,af,none⟩::os) K ⟨f,rows,clk⟩ =
  aJ (t2=t∨slT (E.ty t2)=true) (sN (E.ty t) rows (aS f x) (aS f y) clk (d.getD 0) fun v rows clk=>aO E ops os K ⟨put f d v,rows,clk⟩):=by rw [OJ,aia]
theorem UE{t:TypeId}{x:Operand}:aQ E ops clk k (⟨d, .load t x,ty,pos,af,none⟩::os) K ⟨f,rows,bS,aN⟩=l8 E t (eN .any ops k aN rows) (aS f x) fun v=>aQ E ops clk (k+1) os K ⟨put f d v,rows,jL k (aU (aS f x)) bS,aN⟩:=by rw [aaI,vQ]
theorem OV{t:TypeId}{i:Nat}{x:Operand}:aQ E ops clk k (⟨d, .field t x i,ty,pos,af,none⟩::os) K ⟨f,rows,bS,aN⟩=lA (E.ty t) i (aS f x) fun v=>aQ E ops clk (k+1) os K ⟨put f d v,rows,bS,aN⟩:=by rw [T6,AS]
theorem BW{t:TypeId}{i:Nat}{x:Operand}:aQ E ops clk k (⟨d, .fieldAddr t x i,ty,pos,af,none⟩::os) K ⟨f,rows,bS,aN⟩=eE (E.ty t) (eN .any ops k aN rows) i (aS f x) fun v=>aQ E ops clk (k+1) os K ⟨put f d v,rows,jL k (aU (aS f x)) bS,aN⟩:=by rw [DX,rM]
theorem BX{t:TypeId}{x y:Operand}:aQ E ops clk k (⟨d, .indexAddr t x y,ty,pos,af,none⟩::os) K ⟨f,rows,bS,aN⟩=cT (E.ty t) (eN .any ops k aN rows) (aS f x) (aS f y) fun v=>aQ E ops clk (k+1) os K ⟨put f d v,rows,jL k (aU (aS f x)) bS,aN⟩:=by rw [DY,rN]
theorem OW{t:TypeId}{x:Operand}{lo hi mx:Option Operand}:aQ E ops clk k (⟨d, .slice t x lo hi mx,ty,pos,af,none⟩::os) K ⟨f,rows,bS,aN⟩=gM (E.ty t) (eN .any ops k aN rows) (aS f x) (lo.map (aS f)) (hi.map (aS f)) (mx.map (aS f)) fun v=>aQ E ops clk (k+1) os K ⟨put f d v,rows,jL k (aU (aS f x)) bS,aN⟩:=by rw [T7,AV]
theorem aaN{t:TypeId}{x:Operand}:aQ E ops clk k (⟨d, .call { callee:=.builtin .len,args:=⟨[x]⟩,argTypes:=⟨[t]⟩ },ty,pos,af,none⟩::os) K ⟨f,rows,bS,aN⟩=nG (E.ty t) (eN .any ops k aN rows) (aS f x) fun v=>aQ E ops clk (k+1) os K ⟨put f d v,rows,jL k (aU (aS f x)) bS,aN⟩:=by rw [adG,HV]
theorem OX{t:TypeId}{p x:Operand}:aQ E ops clk k (⟨none, .store t p x,ty,pos,af,none⟩::os) K ⟨f,rows,bS,aN⟩ =
  lB E t (eN .any ops k aN rows) (aS f p) (aS f x) fun id r=>aJ (AO .any ops k id bS) (aQ E ops clk (k+1) os K ⟨f,eC rows id (some r),jL k (aU (aS f p)++((cQ (aS f x)).getD []).flatMap aU) bS,oL k id aN⟩):=by rw [T9,←HW];rfl
theorem XP{x:Operand}:go (aO E ops (⟨d, .move x,ty,pos,af,none⟩::os) K ⟨f,rows,clk⟩)=go (aO E ops os K ⟨put f d (aS f x),rows,clk⟩):=aaz
theorem HZ{x:Operand}:go (aO E ops (⟨d, .assign x,ty,pos,af,none⟩::os) K ⟨f,rows,clk⟩)=go (aO E ops os K ⟨put f d (aS f x),rows,clk⟩):=OI
theorem aif{c a b:Operand}:go (aO E ops (⟨d, .pick c a b,ty,pos,af,none⟩::os) K ⟨f,rows,clk⟩)=jF (aS f c) true (aO E ops os K ⟨put f d (aS f a),rows,clk⟩) (aO E ops os K ⟨put f d (aS f b),rows,clk⟩):=aaA
theorem adO{op:BinOp}{t t2:TypeId}{x y:Operand}:go (aO E ops (⟨d, .binOp op t x y t2,ty,pos,af,none⟩::os) K ⟨f,rows,clk⟩)=aX (fun v=>JQ E op t (aS f x) (aS f y) v) fun v=>aO E ops os K ⟨put f d v,rows,clk⟩:=adA
theorem auo{op:UnOp}{t:TypeId}{x:Operand}:go (aO E ops (⟨d, .unOp op t x,ty,pos,af,none⟩::os) K ⟨f,rows,clk⟩)=aX (fun v=>yun op (aS f x) v) fun v=>aO E ops os K ⟨put f d v,rows,clk⟩:=ah3
theorem KK{s t:TypeId}{x:Operand}:go (aO E ops (⟨d, .convert s t x,ty,pos,af,none⟩::os) K ⟨f,rows,clk⟩)=aX (fun v=>u4 (E.ty s) (E.ty t) (aS f x) v) fun v=>aO E ops os K ⟨put f d v,rows,clk⟩:=aaB
theorem UF{i:Nat}{x:Operand}:go (aO E ops (⟨d, .extract x i,ty,pos,af,none⟩::os) K ⟨f,rows,clk⟩)=xD i (aS f x) fun v=>aO E ops os K ⟨put f d v,rows,clk⟩:=by
 show aO E ops (⟨d, .extract x i,ty,pos,af,none⟩::os) K ⟨f,rows,clk⟩=_
 rw [KB,HY]
theorem aih{t:TypeId}{x:Operand}:go (aO E ops (⟨d, .load t x,ty,pos,af,none⟩::os) K ⟨f,rows,clk⟩)=l8 E t rows (aS f x) fun v=>aO E ops os K ⟨put f d v,rows,clk⟩:=UD
theorem adP{t:TypeId}{i:Nat}{x:Operand}:go (aO E ops (⟨d, .field t x i,ty,pos,af,none⟩::os) K ⟨f,rows,clk⟩)=lA (E.ty t) i (aS f x) fun v=>aO E ops os K ⟨put f d v,rows,clk⟩:=OS
theorem KL{t:TypeId}{i:Nat}{x:Operand}:go (aO E ops (⟨d, .fieldAddr t x i,ty,pos,af,none⟩::os) K ⟨f,rows,clk⟩)=eE (E.ty t) rows i (aS f x) fun v=>aO E ops os K ⟨put f d v,rows,clk⟩:=BU
theorem KM{t:TypeId}{x y:Operand}:go (aO E ops (⟨d, .indexAddr t x y,ty,pos,af,none⟩::os) K ⟨f,rows,clk⟩)=cT (E.ty t) rows (aS f x) (aS f y) fun v=>aO E ops os K ⟨put f d v,rows,clk⟩:=BV
theorem adQ{t:TypeId}{x:Operand}{lo hi mx:Option Operand}:go (aO E ops (⟨d, .slice t x lo hi mx,ty,pos,af,none⟩::os) K ⟨f,rows,clk⟩)=gM (E.ty t) rows (aS f x) (lo.map (aS f)) (hi.map (aS f)) (mx.map (aS f)) fun v=>aO E ops os K ⟨put f d v,rows,clk⟩:=OT
theorem adR{t:TypeId}{parts:Array (Nat × Operand)}:go (aO E ops (⟨d, .build t parts,ty,pos,af,none⟩::os) K ⟨f,rows,clk⟩)=mJ (E.ty t) (parts.toList.map fun x=>(x.1,aS f x.2)) fun v=>aO E ops os K ⟨put f d v,rows,clk⟩:=by
 show aO E ops (⟨d, .build t parts,ty,pos,af,none⟩::os) K ⟨f,rows,clk⟩=_
 rw [TZ,AW]
theorem OY{t:TypeId}{x y:Operand}:go (aO E ops (⟨d, .index t x y,ty,pos,af,none⟩::os) K ⟨f,rows,clk⟩)=aX (fun v=>vK E (E.ty t) (aS f x) (aS f y) v) fun v=>aO E ops os K ⟨put f d v,rows,clk⟩:=T0
theorem OZ{x:Operand}:go (aO E ops (⟨d, .nilCheck x,ty,pos,af,none⟩::os) K ⟨f,rows,clk⟩)=vF rows (aS f x) fun v=>aO E ops os K ⟨put f d v,rows,clk⟩:=by show aO E ops _ K _=_;rw [GS,HU]
theorem aof{t:TypeId}{x:Operand}:go (aO E ops (⟨d, .call { callee:=.builtin .len,args:=⟨[x]⟩,argTypes:=⟨[t]⟩ },ty,pos,af,none⟩::os) K ⟨f,rows,clk⟩)=nG (E.ty t) rows (aS f x) fun v=>aO E ops os K ⟨put f d v,rows,clk⟩:=aaM
theorem aog{ts:Array TypeId}{x y:Operand}:go (aO E ops (⟨d, .call { callee:=.builtin .max,args:=⟨[x,y]⟩,argTypes:=ts },ty,pos,af,none⟩::os) K ⟨f,rows,clk⟩)=aX (fun v=>SX (aS f x) (aS f y) v) fun v=>aO E ops os K ⟨put f d v,rows,clk⟩:=adC
theorem aoh{ts:Array TypeId}{x y:Operand}:go (aO E ops (⟨d, .call { callee:=.builtin .min,args:=⟨[x,y]⟩,argTypes:=ts },ty,pos,af,none⟩::os) K ⟨f,rows,clk⟩)=aX (fun v=>SY (aS f x) (aS f y) v) fun v=>aO E ops os K ⟨put f d v,rows,clk⟩:=adD
theorem GY{t:TypeId}{len:Nat}{parts:Array (Nat × Operand)}:go (aO E ops (⟨d, .buildSlice t len parts,ty,pos,af,none⟩::os) K ⟨f,rows,clk⟩)=xC (E.ty t) rows len (parts.toList.map fun x=>(x.1,aS f x.2)) fun v=>aO E ops os K ⟨put f d v,rows,clk⟩:=by
 show aO E ops (⟨d, .buildSlice t len parts,ty,pos,af,none⟩::os) K ⟨f,rows,clk⟩=_
 rw [BS,HX]
theorem adS{t:TypeId}{p x:Operand}:go (aO E ops (⟨none, .store t p x,ty,pos,af,none⟩::os) K ⟨f,rows,clk⟩)=lB E t rows (aS f p) (aS f x) fun id r=>aO E ops os K ⟨f,eC rows id (some r),clk⟩:=OU
theorem adT{t:TypeId}:go (aO E ops (⟨d, .alloc t,ty,pos,af,none⟩::os) K ⟨f,rows,clk⟩)=aJ ((E.ty t).known=true) (aO E ops os K ⟨put f d (.ptr (d.getD 0) clk 0 0),eC rows (d.getD 0) (some ⟨clk,t,(E.ty t).size,[(E.ty t).zero]⟩),clk+1⟩):=T3
theorem aoi{t:TypeId}{x:Operand}:go (aO E ops (⟨d, .box t x,ty,pos,af,none⟩::os) K ⟨f,rows,clk⟩)=aJ ((E.ty t).known=true) (gJ (cQ (aS f x)) fun l=>aJ (iY rows l∧l.length=(E.ty t).size) (aO E ops os K ⟨put f d (.ptr (d.getD 0) clk 0 0),eC rows (d.getD 0) (some ⟨clk,t,(E.ty t).size,[l]⟩),clk+1⟩)):=by
 show aO E ops (⟨d, .box t x,ty,pos,af,none⟩::os) K ⟨f,rows,clk⟩=_
 rw [adE]
 simp only [aJ,gJ,iY,and_assoc]
theorem KN{t:TypeId}{l c:Operand}:go (aO E ops (⟨d, .makeSlice t l c,ty,pos,af,none⟩::os) K ⟨f,rows,clk⟩)=sK (E.ty t) (aS f l) (aS f c) fun e n z x=>aO E ops os K ⟨put f d (.own (d.getD 0) clk 0 x.toNat),eC rows (d.getD 0) (some ⟨clk,e,n,List.replicate x.toNat z⟩),clk+1⟩:=DW
theorem aaO{t t2:TypeId}{x y:Operand}:go (aO E ops (⟨d, .call { callee:=.builtin .append,args:=⟨[x,y]⟩,argTypes:=⟨[t,t2]⟩ },ty,pos,af,none⟩::os) K ⟨f,rows,clk⟩)=aJ (t2=t∨slT (E.ty t2)=true) (sN (E.ty t) rows (aS f x) (aS f y) clk (d.getD 0) fun v rows clk=>aO E ops os K ⟨put f d v,rows,clk⟩):=KI
theorem aii{fo:Operand}{args:Array Operand}{ts:Array TypeId}:go (aO E ops (⟨d, .call { callee:=.value fo,args:=args,argTypes:=ts },ty,pos,af,none⟩::os) K ⟨f,rows,clk⟩)=sL E (aS f fo) (args.toList.map (aS f)) rows clk fun v rows clk=>aO E ops os K ⟨put f d v,rows,clk⟩:=aaE
theorem O0{g:FuncId}{caps:Array Operand}:go (aO E ops (⟨d, .makeFunc (.func g) ⟨[]⟩ caps,ty,pos,af,none⟩::os) K ⟨f,rows,clk⟩)=aJ (((caps.toList.map (aS f)).map (pz rows)).all dI=true∧fC rows ((caps.toList.map (aS f)).flatMap eB))
      (aO E ops os K ⟨put f d (.fn g ((caps.toList.map (aS f)).map (pz rows))),HL rows ((caps.toList.map (aS f)).flatMap eB),clk⟩):=GU
theorem adU{op:Op}{j:Nat}{want:Bool}:go (aO E ops (⟨d,op,ty,pos,af,some (j,want)⟩::os) K ⟨f,rows,clk⟩)=qR (GX ops j) f want (aO E ops (⟨d,op,ty,pos,af,none⟩::os) K ⟨f,rows,clk⟩) (aO E ops os K ⟨put f d (.dX []),rows,clk⟩):=by
 rw [KH,←OQ];rfl
theorem aij{x:Operand}:go (aQ E ops clk k (⟨d, .move x,ty,pos,af,none⟩::os) K ⟨f,rows,bS,aN⟩)=go (aQ E ops clk (k+1) os K ⟨put f d (aS f x),rows,bS,aN⟩):=aaF
theorem aaP{x:Operand}:go (aQ E ops clk k (⟨d, .assign x,ty,pos,af,none⟩::os) K ⟨f,rows,bS,aN⟩)=go (aQ E ops clk (k+1) os K ⟨put f d (aS f x),rows,bS,aN⟩):=OL
theorem aik{c a b:Operand}:go (aQ E ops clk k (⟨d, .pick c a b,ty,pos,af,none⟩::os) K ⟨f,rows,bS,aN⟩)=jF (aS f c) true (aQ E ops clk (k+1) os K ⟨put f d (aS f a),rows,bS,aN⟩) (aQ E ops clk (k+1) os K ⟨put f d (aS f b),rows,bS,aN⟩):=aaG
theorem aoj{op:BinOp}{t t2:TypeId}{x y:Operand}:go (aQ E ops clk k (⟨d, .binOp op t x y t2,ty,pos,af,none⟩::os) K ⟨f,rows,bS,aN⟩)=aX (fun v=>JQ E op t (aS f x) (aS f y) v) fun v=>aQ E ops clk (k+1) os K ⟨put f d v,rows,bS,aN⟩:=adF
theorem aup{op:UnOp}{t:TypeId}{x:Operand}:go (aQ E ops clk k (⟨d, .unOp op t x,ty,pos,af,none⟩::os) K ⟨f,rows,bS,aN⟩)=aX (fun v=>yun op (aS f x) v) fun v=>aQ E ops clk (k+1) os K ⟨put f d v,rows,bS,aN⟩:=ah5
theorem ail{s t:TypeId}{x:Operand}:go (aQ E ops clk k (⟨d, .convert s t x,ty,pos,af,none⟩::os) K ⟨f,rows,bS,aN⟩)=aX (fun v=>u4 (E.ty s) (E.ty t) (aS f x) v) fun v=>aQ E ops clk (k+1) os K ⟨put f d v,rows,bS,aN⟩:=aaH
theorem UG{i:Nat}{x:Operand}:go (aQ E ops clk k (⟨d, .extract x i,ty,pos,af,none⟩::os) K ⟨f,rows,bS,aN⟩)=xD i (aS f x) fun v=>aQ E ops clk (k+1) os K ⟨put f d v,rows,bS,aN⟩:=by
 show aQ E ops clk k (⟨d, .extract x i,ty,pos,af,none⟩::os) K ⟨f,rows,bS,aN⟩=_
 rw [KC,HY]
theorem aim{t:TypeId}{x:Operand}:go (aQ E ops clk k (⟨d, .load t x,ty,pos,af,none⟩::os) K ⟨f,rows,bS,aN⟩)=l8 E t (eN .any ops k aN rows) (aS f x) fun v=>aQ E ops clk (k+1) os K ⟨put f d v,rows,jL k (aU (aS f x)) bS,aN⟩:=UE
theorem adV{t:TypeId}{i:Nat}{x:Operand}:go (aQ E ops clk k (⟨d, .field t x i,ty,pos,af,none⟩::os) K ⟨f,rows,bS,aN⟩)=lA (E.ty t) i (aS f x) fun v=>aQ E ops clk (k+1) os K ⟨put f d v,rows,bS,aN⟩:=OV
theorem KO{t:TypeId}{i:Nat}{x:Operand}:go (aQ E ops clk k (⟨d, .fieldAddr t x i,ty,pos,af,none⟩::os) K ⟨f,rows,bS,aN⟩)=eE (E.ty t) (eN .any ops k aN rows) i (aS f x) fun v=>aQ E ops clk (k+1) os K ⟨put f d v,rows,jL k (aU (aS f x)) bS,aN⟩:=BW
theorem KP{t:TypeId}{x y:Operand}:go (aQ E ops clk k (⟨d, .indexAddr t x y,ty,pos,af,none⟩::os) K ⟨f,rows,bS,aN⟩)=cT (E.ty t) (eN .any ops k aN rows) (aS f x) (aS f y) fun v=>aQ E ops clk (k+1) os K ⟨put f d v,rows,jL k (aU (aS f x)) bS,aN⟩:=BX
theorem adW{t:TypeId}{x:Operand}{lo hi mx:Option Operand}:go (aQ E ops clk k (⟨d, .slice t x lo hi mx,ty,pos,af,none⟩::os) K ⟨f,rows,bS,aN⟩)=gM (E.ty t) (eN .any ops k aN rows) (aS f x) (lo.map (aS f)) (hi.map (aS f)) (mx.map (aS f)) fun v=>aQ E ops clk (k+1) os K ⟨put f d v,rows,jL k (aU (aS f x)) bS,aN⟩:=OW
theorem adX{t:TypeId}{parts:Array (Nat × Operand)}:go (aQ E ops clk k (⟨d, .build t parts,ty,pos,af,none⟩::os) K ⟨f,rows,bS,aN⟩)=mJ (E.ty t) (parts.toList.map fun x=>(x.1,aS f x.2)) fun v=>aQ E ops clk (k+1) os K ⟨put f d v,rows,bS,aN⟩:=by
 show aQ E ops clk k (⟨d, .build t parts,ty,pos,af,none⟩::os) K ⟨f,rows,bS,aN⟩=_
 rw [T8,AW]
theorem O1{x:Operand}:go (aQ E ops clk k (⟨d, .nilCheck x,ty,pos,af,none⟩::os) K ⟨f,rows,bS,aN⟩)=vF (eN .any ops k aN rows) (aS f x) fun v=>aQ E ops clk (k+1) os K ⟨put f d v,rows,jL k (aU (aS f x)) bS,aN⟩:=by show aQ E ops clk k _ K _=_;rw [GV,HU]
theorem aok{t:TypeId}{x:Operand}:go (aQ E ops clk k (⟨d, .call { callee:=.builtin .len,args:=⟨[x]⟩,argTypes:=⟨[t]⟩ },ty,pos,af,none⟩::os) K ⟨f,rows,bS,aN⟩)=nG (E.ty t) (eN .any ops k aN rows) (aS f x) fun v=>aQ E ops clk (k+1) os K ⟨put f d v,rows,jL k (aU (aS f x)) bS,aN⟩:=aaN
theorem aol{ts:Array TypeId}{x y:Operand}:go (aQ E ops clk k (⟨d, .call { callee:=.builtin .max,args:=⟨[x,y]⟩,argTypes:=ts },ty,pos,af,none⟩::os) K ⟨f,rows,bS,aN⟩)=aX (fun v=>SX (aS f x) (aS f y) v) fun v=>aQ E ops clk (k+1) os K ⟨put f d v,rows,bS,aN⟩:=adH
theorem aom{ts:Array TypeId}{x y:Operand}:go (aQ E ops clk k (⟨d, .call { callee:=.builtin .min,args:=⟨[x,y]⟩,argTypes:=ts },ty,pos,af,none⟩::os) K ⟨f,rows,bS,aN⟩)=aX (fun v=>SY (aS f x) (aS f y) v) fun v=>aQ E ops clk (k+1) os K ⟨put f d v,rows,bS,aN⟩:=adI
theorem GZ{t:TypeId}{len:Nat}{parts:Array (Nat × Operand)}:go (aQ E ops clk k (⟨d, .buildSlice t len parts,ty,pos,af,none⟩::os) K ⟨f,rows,bS,aN⟩)=xC (E.ty t) (eN .any ops k aN rows) len (parts.toList.map fun x=>(x.1,aS f x.2)) fun v=>aQ E ops clk (k+1) os K ⟨put f d v,rows,bS,aN⟩:=by
 show aQ E ops clk k (⟨d, .buildSlice t len parts,ty,pos,af,none⟩::os) K ⟨f,rows,bS,aN⟩=_
 rw [BT,HX]
theorem adY{t:TypeId}{p x:Operand}:go (aQ E ops clk k (⟨none, .store t p x,ty,pos,af,none⟩::os) K ⟨f,rows,bS,aN⟩)=lB E t (eN .any ops k aN rows) (aS f p) (aS f x) fun id r=>aJ (AO .any ops k id bS) (aQ E ops clk (k+1) os K ⟨f,eC rows id (some r),jL k (aU (aS f p)++((cQ (aS f x)).getD []).flatMap aU) bS,oL k id aN⟩):=OX
theorem adZ{t:TypeId}:go (aQ E ops clk k (⟨d, .alloc t,ty,pos,af,none⟩::os) K ⟨f,rows,bS,aN⟩)=aJ ((E.ty t).known=true∧AO .any ops k (d.getD 0) bS) (aQ E ops (clk+1) (k+1) os K ⟨put f d (.ptr (d.getD 0) clk 0 0),eC rows (d.getD 0) (some ⟨clk,t,(E.ty t).size,[(E.ty t).zero]⟩),bS,oL k (d.getD 0) aN⟩):=UA
theorem aon{t:TypeId}{x:Operand}:go (aQ E ops clk k (⟨d, .box t x,ty,pos,af,none⟩::os) K ⟨f,rows,bS,aN⟩)=aJ ((E.ty t).known=true) (gJ (cQ (aS f x)) fun l=>aJ (iY (fun _=>none) l∧l.length=(E.ty t).size∧AO .any ops k (d.getD 0) bS) (aQ E ops (clk+1) (k+1) os K ⟨put f d (.ptr (d.getD 0) clk 0 0),eC rows (d.getD 0) (some ⟨clk,t,(E.ty t).size,[l]⟩),bS,oL k (d.getD 0) aN⟩)):=by
 show aQ E ops clk k (⟨d, .box t x,ty,pos,af,none⟩::os) K ⟨f,rows,bS,aN⟩=_
 rw [adK]
 simp only [aJ,gJ,iY]
theorem KQ{t:TypeId}{l c:Operand}:go (aQ E ops clk k (⟨d, .makeSlice t l c,ty,pos,af,none⟩::os) K ⟨f,rows,bS,aN⟩)=sK (E.ty t) (aS f l) (aS f c) fun e n z x=>aJ (AO .any ops k (d.getD 0) bS) (aQ E ops (clk+1) (k+1) os K ⟨put f d (.own (d.getD 0) clk 0 x.toNat),eC rows (d.getD 0) (some ⟨clk,e,n,List.replicate x.toNat z⟩),bS,oL k (d.getD 0) aN⟩):=DZ
def sO(t:TI)(rows:Rows)(x y:PV)(clk d:Nat)(K:PV→Nat→Row→Prop)(K0:PV→Prop):Prop:=
 match t with
 | .slice e n b _=>lC rows y fun l=>aJ (bK n l) (match x with
  | .nil=>aJ (l.length≤room∧l.length*b≤room) (K (.own d clk 0 l.length) d ⟨clk,e,n,l⟩)
  | .own id ver off len=>bV (rows id) ver fun r=>aJ (off=0∧r.e=e∧r.size=n) (jY (len=r.els.length) len r.els fun els=>aJ (len+l.length≤room∧(len+l.length)*b≤room) (K (.own id clk 0 (len+l.length)) id ⟨clk,e,n,els++l⟩))
  | .jA l0=>aJ (bK n l0 ∧ ∀e∈l,∀p∈e,bL p=true) (aJ (l0.length+l.length≤room∧(l0.length+l.length)*b≤room) (K0 (.sl (l0++l))))
  | _=>False)
 | _=>False
@[congr] theorem aly{t t':TI}{rows rows':Rows}{x x' y y':PV}{clk d:Nat}{K:PV→Nat→Row→Prop}{K0:PV→Prop}(h1:t=t')(h2:rows=rows')(h3:x=x')(h4:y=y') :
  sO t rows x y clk d K K0=sO t' rows' x' y' clk d K K0:=by rw [h1,h2,h3,h4]
section
variable {e:TypeId} {n b:Nat} {z:List PV} {rows:Rows} {y:PV} {clk d id ver off len:Nat} {K:PV→Nat→Row→Prop} {K0:PV→Prop}
@[simp] theorem asg:sO (.slice e n b z) rows .nil y clk d K K0=lC rows y fun l=>aJ (bK n l) (aJ (l.length≤room∧l.length*b≤room) (K (.own d clk 0 l.length) d ⟨clk,e,n,l⟩)):=rfl
@[simp] theorem ash:sO (.slice e n b z) rows (.own id ver off len) y clk d K K0=lC rows y fun l=>aJ (bK n l) (bV (rows id) ver fun r=>aJ (off=0∧r.e=e∧r.size=n) (jY (len=r.els.length) len r.els fun els=>aJ (len+l.length≤room∧(len+l.length)*b≤room) (K (.own id clk 0 (len+l.length)) id ⟨clk,e,n,els++l⟩))):=rfl
@[simp] theorem asi{l0:List (List PV)}:sO (.slice e n b z) rows (.jA l0) y clk d K K0=lC rows y fun l=>aJ (bK n l) (aJ (bK n l0 ∧ ∀e∈l,∀p∈e,bL p=true) (aJ (l0.length+l.length≤room∧(l0.length+l.length)*b≤room) (K0 (.sl (l0++l))))):=rfl
end
@[simp] theorem auq(t:TI)(r:Rows)(x y:PV)(c d:Nat)(K:PV→Nat→Row→Prop)(K0:PV→Prop):go (sO t r x y c d K K0)=sO t r x y c d K K0:=rfl
theorem ad1{t:TI}{rows:Rows}{x y:PV}{clk d:Nat}{K:PV→Option (Nat × Row)→Prop}:(∃v u,vC t rows x y clk d v u∧K v u)=sO t rows x y clk d (fun v id r=>K v (some (id,r))) (fun v=>K v none):=by
 cases t with
 | slice e n b z =>
  simp only [sO,vC]
  rw [←XM]
  apply propext
  cases x with
  | nil =>
   simp only [aJ,bK]
   constructor
   ·rintro⟨v,u,⟨l,h1,h2,h3,h4,rfl,rfl⟩,h6⟩
    exact⟨l,h1,h2,⟨h3,h4⟩,h6⟩
   ·rintro⟨l,h1,h2,⟨h3,h4⟩,h6⟩
    exact⟨_,_,⟨l,h1,h2,h3,h4,rfl,rfl⟩,h6⟩
  | jA l0 =>
   simp only [aJ,bK]
   constructor
   ·rintro⟨v,u,⟨l,h1,h2,h3,h4,h5,h6,rfl,rfl⟩,h7⟩
    exact⟨l,h1,h2,⟨h3,h4⟩,⟨h5,h6⟩,h7⟩
   ·rintro⟨l,h1,h2,⟨h3,h4⟩,⟨h5,h6⟩,h7⟩
    exact⟨_,_,⟨l,h1,h2,h3,h4,h5,h6,rfl,rfl⟩,h7⟩
  | own id ver off len =>
   simp only [aJ,bK,bV,XN]
   constructor
   ·rintro⟨v,u,⟨l,h1,h2,r,h3,h4,h5,h6,h7,h8,h9,h10,rfl,rfl⟩,h12⟩
    exact⟨l,h1,h2,r,h3,h4,⟨h5,h7,h8⟩,h6,⟨h9,h10⟩,h12⟩
   ·rintro⟨l,h1,h2,r,h3,h4,⟨h5,h7,h8⟩,h6,⟨h9,h10⟩,h12⟩
    exact⟨_,_,⟨l,h1,h2,r,h3,h4,h5,h6,h7,h8,h9,h10,rfl,rfl⟩,h12⟩
  | _=>simp [aJ]
 | _=>simp [sO,vC]
theorem aaQ{t t2:TypeId}{x y:Operand}:go (aQ E ops clk k (⟨d, .call { callee:=.builtin .append,args:=⟨[x,y]⟩,argTypes:=⟨[t,t2]⟩ },ty,pos,af,none⟩::os) K ⟨f,rows,bS,aN⟩) =
  aJ (t2=t∨slT (E.ty t2)=true) (sO (E.ty t) (eN .any ops k aN rows) (aS f x) (aS f y) clk (d.getD 0) (fun v id r=>aJ (AO .any ops k id bS) (aQ E ops (clk+1) (k+1) os K ⟨put f d v,eC rows id (some r),jL k (aU (aS f x)++aU (aS f y)) bS,oL k id aN⟩))
   (fun v=>aQ E ops (clk+1) (k+1) os K ⟨put f d v,rows,jL k (aU (aS f x)++aU (aS f y)) bS,aN⟩)):=by
 show aQ E ops clk k (⟨d, .call { callee:=.builtin .append,args:=⟨[x,y]⟩,argTypes:=⟨[t,t2]⟩ },ty,pos,af,none⟩::os) K ⟨f,rows,bS,aN⟩=_
 rw [OM]
 congr 1
 rw [ad1]
 simp only [N8,wlU,eS,true_and]
 rfl
def sP(t:TI)(rows:Rows)(x y:PV)(K:PV→Nat→Row→Prop):Prop:=
 match t,x with
 | .slice _ n _ _, .own id ver off len=>∃r,rows id=some r∧r.ver=ver∧r.size=n∧off+len≤r.els.length ∧ ∃l,sG rows y l∧(∀e∈l,e.length=n) ∧
   K (.int .i64 (min l.length len)) id { r with els:=r.els.take off++l.take len++r.els.drop (off+min l.length len) }
 | _,_=>False
@[congr] theorem ain{t t':TI}{rows rows':Rows}{x x' y y':PV}{K:PV→Nat→Row→Prop}(h1:t=t')(h2:rows=rows')(h3:x=x')(h4:y=y'):sP t rows x y K=sP t' rows' x' y' K:=by rw [h1,h2,h3,h4]
@[simp] theorem asj(t:TI)(r:Rows)(x y:PV)(K:PV→Nat→Row→Prop):go (sP t r x y K)=sP t r x y K:=rfl
theorem aaR{t:TI}{rows:Rows}{x y:PV}{K:PV→Option (Nat × Row)→Prop}:(∃v u,u7 t rows x y v u∧K v u)=sP t rows x y fun v id r=>K v (some (id,r)):=by
 apply propext
 unfold u7 sP
 constructor
 ·rintro⟨v,u,h,hK⟩
  split at h
  ·obtain⟨r,h1,h2,h3,h4,l,h5,h6,rfl,rfl⟩:=h
   exact⟨r,h1,h2,h3,h4,l,h5,h6,hK⟩
  ·exact h.elim
 ·intro h
  split at h
  ·obtain⟨r,h1,h2,h3,h4,l,h5,h6,hK⟩:=h
   exact⟨_,_,⟨r,h1,h2,h3,h4,l,h5,h6,rfl,rfl⟩,hK⟩
  ·exact h.elim
theorem aio{t t2:TypeId}{x y:Operand}:go (aQ E ops clk k (⟨d, .call { callee:=.builtin .copy,args:=⟨[x,y]⟩,argTypes:=⟨[t,t2]⟩ },ty,pos,af,none⟩::os) K ⟨f,rows,bS,aN⟩) =
  sP (E.ty t) (eN .any ops k aN rows) (aS f x) (aS f y) fun v id r=>aJ (AO .any ops k id bS) (aQ E ops clk (k+1) os K ⟨put f d v,eC rows id (some r),jL k (aU (aS f x)++aU (aS f y)) bS,oL k id aN⟩):=by
 show aQ E ops clk k (⟨d, .call { callee:=.builtin .copy,args:=⟨[x,y]⟩,argTypes:=⟨[t,t2]⟩ },ty,pos,af,none⟩::os) K ⟨f,rows,bS,aN⟩=_
 rw [aaJ,aaR]
 simp only [N8,wlU,eS]
 rfl
theorem aus{e e':TypeId}{n b:Nat}{z:List PV}{rows:Rows}{id ver off len:Nat}{y:PV}{K:PV→Nat→Row→Prop}{els l:List (List PV)}(hr:rows id=some ⟨ver,e',n,els⟩)(hl:off+len≤els.length)(hy:sG rows y l)(h1:∀e∈l,e.length=n)
  (hK:go (K (.int .i64 (min l.length len)) id ⟨ver,e',n,els.take off++l.take len++els.drop (off+min l.length len)⟩)):sP (.slice e n b z) rows (.own id ver off len) y K:=
 ⟨_,hr,rfl,rfl,hl,l,hy,h1,hK⟩
@[simp] theorem asl{E:Env}{p:PV}{fE:List PV}{rows:Rows}{K:PV→Nat→Row→Prop}:go (qQ E p fE rows K)=qQ E p fE rows K:=rfl
@[simp] theorem asm{E:Env}{g:FuncId}:wZ E (.fn g [])=E.GG g:=rfl
@[simp] theorem aop{E:Env}{g:FuncId}{x:PV}{l:List PV}:wZ E (.fn g (x::l))=false:=rfl
theorem D3{E:Env}{g:FuncId}{rest:List PV}{e:TypeId}{n:Nat}{core eI:List PV}{v:PV}{id ver:Nat}{rows:Rows}{K:PV→Nat→Row→Prop}(h:fY E.P g rest e n core eI v)(hp:rest.all dI=true)(hv:dI v=true)(hc:∀p∈core,bL p=true)(GI:∀p∈eI,bL p=true)
  (kV:rows id=some ⟨ver,e,n,[core]⟩) (hK:go (K v id ⟨ver,e,n,[eI]⟩)):qQ E (.fn g []) (.ptr id ver 0 0::rest) rows K:=⟨v,id,_,⟨⟨rfl,rfl,hp,hv⟩,e,n,core,eI,kV,h,hc,GI,rfl⟩,hK⟩
theorem iZ{P:Program}{g:FuncId}{rest:List PV}{e:TypeId}{n:Nat}{core eI:List PV}{v:PV}{id ver:Nat}{rows:Rows}{clk:Nat}{K:PV→Rows→Nat→Prop}(h:fY P g rest e n core eI v)(hp:rest.all dI=true)(hv:dI v=true)(hc:∀p∈core,bL p=true)(GI:∀p∈eI,bL p=true)
  (kV:rows id=some ⟨ver,e,n,[core]⟩) (hK:go (K v (eC rows id (some ⟨ver,e,n,[eI]⟩)) clk)):w5 P g (.ptr id ver 0 0::rest) rows clk K:=
 ⟨_,h.az6 hp hv hc GI kV,by rintro r rows' iM ⟨rfl,rfl,rfl⟩;exact hK⟩
theorem ad2{s:Tmp}{args:Array Operand}{ts:Array TypeId}:go (aQ E ops clk k (⟨d, .call { callee:=.value (.tmp s),args:=args,argTypes:=ts },ty,pos,af,none⟩::os) K ⟨f,rows,bS,aN⟩) =
  if wZ E (f s)=true then qQ E (f s) (args.toList.map (aS f)) (eN .any ops k aN rows) (fun v id r=>aJ (AO .any ops k id bS) (aQ E ops clk (k+1) os K ⟨put f d v,eC rows id (some r),jL k ((args.toList.map (aS f)).flatMap aU) bS,oL k id aN⟩))
  else qP E (f s) (args.toList.map (aS f)) (eN .any ops k aN rows) fun v=>aQ E ops clk (k+1) os K ⟨put f d v,rows,bS,aN⟩:=HS rfl
def tW(P:Program)(g:FuncId)(args:List PV)(c:Prop)(K:TypeId→Nat→List (List PV)→Prop):Prop:=∃e n els,(args.all dI=true∧mT P g args e n els∧c)∧K e n els
@[congr] theorem ahp{P:Program}{g:FuncId}{args OK:List PV}{c c':Prop}{K:TypeId→Nat→List (List PV)→Prop}(h:args=OK)(hc:c=c'):tW P g args c K=tW P g OK c' K:=by rw [h,hc]
@[simp] theorem aoq{P:Program}{g:FuncId}{args:List PV}{c:Prop}{K:TypeId→Nat→List (List PV)→Prop}:go (tW P g args c K)=tW P g args c K:=rfl
theorem ad3{P:Program}{g:FuncId}{args:List PV}{c:Prop}{K:TypeId→Nat→List (List PV)→Prop}{e:TypeId}{n:Nat}{els:List (List PV)}(h:mT P g args e n els)(hp:args.all dI=true)(hc:c)(hK:go (K e n els)):tW P g args c K:=⟨e,n,els,⟨hp,h,hc⟩,hK⟩
theorem ad4{g:FuncId}{args:Array Operand}{ts:Array TypeId}:go (aQ E ops clk k (⟨d, .call { callee:=.value (.func g),args:=args,argTypes:=ts },ty,pos,af,none⟩::os) K ⟨f,rows,bS,aN⟩) =
  if E.writes g=true then tW E.P g (args.toList.map (aS f)) (AO .any ops k (d.getD 0) bS) (fun e n els=>aQ E ops (clk+1) (k+1) os K ⟨put f d (.own (d.getD 0) clk 0 els.length),eC rows (d.getD 0) (some ⟨clk,e,n,els⟩),bS,oL k (d.getD 0) aN⟩)
  else if E.GG g=true then qQ E (.fn g []) (args.toList.map (aS f)) (eN .any ops k aN rows) (fun v id r=>aJ (AO .any ops k id bS) (aQ E ops clk (k+1) os K ⟨put f d v,eC rows id (some r),jL k ((args.toList.map (aS f)).flatMap aU) bS,oL k id aN⟩))
  else qP E (.fn g []) (args.toList.map (aS f)) (eN .any ops k aN rows) fun v=>aQ E ops clk (k+1) os K ⟨put f d v,rows,bS,aN⟩:=by
 split
 ·rename_i hw;exact UB hw
 ·rename_i hw;exact HS (by simpa [eA]using hw)
theorem O2{g:FuncId}{caps:Array Operand}:go (aQ E ops clk k (⟨d, .makeFunc (.func g) ⟨[]⟩ caps,ty,pos,af,none⟩::os) K ⟨f,rows,bS,aN⟩)=aJ ((caps.toList.map fun x=>aS f x).all dI=true) (aQ E ops clk (k+1) os K ⟨put f d (.fn g (caps.toList.map fun x=>aS f x)),rows,bS,aN⟩):=GW
theorem ad5{op:Op}{j:Nat}{want:Bool}:go (aQ E ops clk k (⟨d,op,ty,pos,af,some (j,want)⟩::os) K ⟨f,rows,bS,aN⟩)=qR (GX ops j) f want (aQ E ops clk k (⟨d,op,ty,pos,af,none⟩::os) K ⟨f,rows,bS,aN⟩) (aQ E ops clk (k+1) os K ⟨put f d (.dX []),rows,bS,aN⟩):=by
 rw [KH,←OR];rfl
theorem ad6{σ:PS}:go (aO E ops [] K σ)=K σ:=rfl
theorem aor{st:ST}:go (aQ E ops clk k [] K st)=go (K ⟨st.f,st.rows,clk⟩):=rfl
@[simp] theorem XQ{s:Nat}:aS f (.tmp s)=f s:=rfl
@[simp] theorem aut{g:FuncId}:aS f (.func g) = .fn g []:=rfl
@[simp] theorem aaS{v:Value}:aS f (.const v)=pF v:=rfl
end
@[simp] theorem aos{k:IntKind}{n:Int}:pF (.int k n) = .int k n:=rfl
@[simp] theorem alz{b:Bool}:pF (.bool b) = .bool b:=rfl
@[simp] theorem UH{s:ByteArray}:pF (.string s) = .str s:=rfl
@[simp] theorem alA:pF (.pointer none) = .lV:=rfl
@[simp] theorem alB:j1 (.pointer none) = .lV:=rfl
@[simp] theorem aot:pF (.slice none 0 0) = .nil:=rfl
@[simp] theorem aou{cs:List Value}:pF (.agg ⟨cs⟩) = .ag (cs.map j1):=rfl
@[simp] theorem aov{k:IntKind}{n:Int}:j1 (.int k n) = .int k n:=rfl
@[simp] theorem alC{b:Bool}:j1 (.bool b) = .bool b:=rfl
@[simp] theorem aow{s:ByteArray}:j1 (.string s) = .str s:=rfl
@[simp] theorem aox:j1 (.slice none 0 0) = .nil:=rfl
@[simp] theorem auu(R K:PV→Prop):go (aX R K)=aX R K:=rfl
@[simp] theorem auv(p:PV)(w:Bool)(A B:Prop):go (stepG p w A B)=stepG p w A B:=rfl
@[simp] theorem auw(p:PV)(w:Bool)(A B:Prop):go (jF p w A B)=jF p w A B:=rfl
@[simp] theorem auy(A B:Prop):go (aJ A B)=aJ A B:=rfl
@[simp] theorem aoy(c:Prop)(len:Nat)(els:List (List PV))(K:List (List PV)→Prop):go (jY c len els K)=jY c len els K:=rfl
@[simp] theorem auz(P:Program)(g:FuncId)(l:List PV)(K:PV→Prop):go (xA P g l K)=xA P g l K:=rfl
@[simp] theorem aoz(o:Option Row)(v:Nat)(K:Row→Prop):go (bV o v K)=bV o v K:=rfl
@[simp] theorem aAG(l:List (List PV))(i:Nat)(K:List PV→Prop):go (HT l i K)=HT l i K:=rfl
@[simp] theorem aAH(t:TI)(l:List PV)(j:Nat)(K:PV→Prop):go (AR t l j K)=AR t l j K:=rfl
@[simp] theorem asn(E:Env)(t:TypeId)(r:Rows)(p:PV)(K:PV→Prop):go (l8 E t r p K)=l8 E t r p K:=rfl
@[simp] theorem aoA(t:TI)(i:Nat)(x:PV)(K:PV→Prop):go (lA t i x K)=lA t i x K:=rfl
@[simp] theorem ayx(p:Nat × Nat × Bool)(l:List PV)(K:PV→Prop):go (KE p l K)=KE p l K:=rfl
@[simp] theorem auA(r:Rows)(x:PV)(K:PV→Prop):go (vF r x K)=vF r x K:=rfl
@[simp] theorem ad7(t:TI)(r:Rows)(i:Nat)(x:PV)(K:PV→Prop):go (eE t r i x K)=eE t r i x K:=rfl
@[simp] theorem ad8(t:TI)(r:Rows)(x y:PV)(K:PV→Prop):go (cT t r x y K)=cT t r x y K:=rfl
@[simp] theorem aAI(d:Nat)(o:Option PV)(K:Nat→Prop):go (AU d o K)=AU d o K:=rfl
@[simp] theorem aoB(t:TI)(r:Rows)(x:PV)(a b c:Option PV)(K:PV→Prop):go (gM t r x a b c K)=gM t r x a b c K:=rfl
@[simp] theorem auB(t:TI)(r:Rows)(x:PV)(K:PV→Prop):go (nG t r x K)=nG t r x K:=rfl
@[simp] theorem aoC(E:Env)(t:TypeId)(r:Rows)(p x:PV)(K:Nat→Row→Prop):go (lB E t r p x K)=lB E t r p x K:=rfl
@[simp] theorem auC(r:Rows)(y:PV)(K:List (List PV)→Prop):go (lC r y K)=lC r y K:=rfl
@[simp] theorem auD(t:TI)(r:Rows)(x y:PV)(c d:Nat)(K:PV→Rows→Nat→Prop):go (sN t r x y c d K)=sN t r x y c d K:=rfl
@[simp] theorem auE(t:TI)(x y:PV)(K:TypeId→Nat→List PV→Int→Prop):go (sK t x y K)=sK t x y K:=rfl
@[simp] theorem aso(E:Env)(p:PV)(l:List PV)(r:Rows)(clk:Nat)(K:PV→Rows→Nat→Prop):go (sL E p l r clk K)=sL E p l r clk K:=rfl
@[simp] theorem auF(P:Program)(g:FuncId)(l:List PV)(r:Rows)(clk:Nat)(K:PV→Rows→Nat→Prop):go (w5 P g l r clk K)=w5 P g l r clk K:=rfl
@[simp] theorem asp(E:Env)(p:PV)(l:List PV)(r:Rows)(K:PV→Prop):go (qP E p l r K)=qP E p l r K:=rfl
@[simp] theorem auG{fs:List (Nat × Nat × Bool)}{ps:List (Nat × PV)}{z:List PV}{K:List PV→Prop}:go (n5 fs ps z K)=n5 fs ps z K:=rfl
@[simp] theorem aoD{t:TI}{ps:List (Nat × PV)}{K:PV→Prop}:go (mJ t ps K)=mJ t ps K:=rfl
@[simp] theorem asq{n k:Nat}{ps:List (Nat × PV)}{K:List (List PV)→Prop}:go (j6 n k ps K)=j6 n k ps K:=rfl
@[simp] theorem auH{t:TI}{rows:Rows}{len:Nat}{ps:List (Nat × PV)}{K:PV→Prop}:go (xC t rows len ps K)=xC t rows len ps K:=rfl
@[simp] theorem auI{i:Nat}{x:PV}{K:PV→Prop}:go (xD i x K)=xD i x K:=rfl
@[simp] theorem ayy{α:Type}(o:Option α)(K:α→Prop):go (gJ o K)=gJ o K:=rfl
@[simp] theorem aDS{α:Type}(p:α→Prop):go (∃x,p x) = ∃x,go (p x):=rfl
@[simp] theorem auJ:go False=False:=rfl
@[simp] theorem aDT{p:Prop}:go (go p)=go p:=rfl
@[simp] theorem alD{t:PV}{K:PV→Prop}:aX (fun v=>v=t) K=go (K t):=k9
@[simp] theorem aAJ{t:PV}{K:PV→Prop}:aX (fun v=>t=v) K=go (K t):=aay
@[simp] theorem aip{B:Prop}:aJ True B=go B:=TU
@[simp] theorem ayz{len:Nat}{els:List (List PV)}{K:List (List PV)→Prop}:jY True len els K=go (K els):=KG
@[simp] theorem aDU{A B:Prop}:stepG (.bool true) true A B=go A:=ads
@[simp] theorem aDV{A B:Prop}:stepG (.bool true) false A B=go B:=adt
@[simp] theorem aDW{A B:Prop}:stepG (.bool false) true A B=go B:=adu
@[simp] theorem aDX{A B:Prop}:stepG (.bool false) false A B=go A:=adw
@[simp] theorem aDY{w:Bool}{A B:Prop}:stepG (.dX []) w A B=go B:=adx
@[simp] theorem aDZ{A B:Prop}:jF (.bool true) true A B=go A:=adp
@[simp] theorem aD0{A B:Prop}:jF (.bool true) false A B=go B:=adq
@[simp] theorem aD1{A B:Prop}:jF (.bool false) true A B=go B:=adr
@[simp] theorem aD2{A B:Prop}:jF (.bool false) false A B=go A:=ady
theorem gA{c B:Prop}(h:c):aJ c B=go B:=by simp [aJ,go,h]
attribute [simp] kH ado DT adz anZ TV KA XP HZ aif adO auo KK UF aih adP KL KM adQ adR OY OZ O1 aof aog aoh GY adS adT aoi KN aaO aii O0 adU aij aaP aio aik aoj aup ail UG aim adV KO KP adW adX aok aol aom GZ adY adZ aon KQ aaQ ad2 ad4 O2 ad5 ad6 aor
attribute [simp] slT JQ yun u4 vK SX SY sK sL qP u3 TI.known TI.size TI.zero TI.agg adh adi w9 room
theorem G0{E:Env}{ops:List Oper}{K:PS→Prop}{f:Nat→PV}{rows:Rows}{clk:Nat}:iA E 0 ops K ⟨f,rows,clk⟩=aQ E ops clk 0 ops K ⟨f,rows,fun _ _=>False,fun _ _=>False⟩:=by simp [iA]
@[simp] theorem asr{b:Bool}:dI (.bool b)=true:=rfl
@[simp] theorem aoE{b:Bool}:bL (.bool b)=true:=rfl
@[simp] theorem ass{b:Bool}:aU (.bool b) = []:=rfl
@[simp] theorem ast{rows:Rows}{b:Bool}:iT rows (.bool b)=True:=rfl
@[simp] theorem alE{b:Bool}:cQ (.bool b)=some [.bool b]:=rfl
@[simp] theorem alF{b:Bool}:fI (.bool b)=some [.bool b]:=rfl
@[simp] theorem auK{k:IntKind}{n:Int}:dI (.int k n)=true:=rfl
@[simp] theorem asu{k:IntKind}{n:Int}:bL (.int k n)=true:=rfl
@[simp] theorem auL{k:IntKind}{n:Int}:aU (.int k n) = []:=rfl
@[simp] theorem auM{rows:Rows}{k:IntKind}{n:Int}:iT rows (.int k n)=True:=rfl
@[simp] theorem aoF{k:IntKind}{n:Int}:cQ (.int k n)=some [.int k n]:=rfl
@[simp] theorem aoG{k:IntKind}{n:Int}:fI (.int k n)=some [.int k n]:=rfl
@[simp] theorem auN{s:ByteArray}:dI (.str s)=true:=rfl
@[simp] theorem asv{s:ByteArray}:bL (.str s)=true:=rfl
@[simp] theorem auO{s:ByteArray}:aU (.str s) = []:=rfl
@[simp] theorem auP{rows:Rows}{s:ByteArray}:iT rows (.str s)=True:=rfl
@[simp] theorem aoH{s:ByteArray}:cQ (.str s)=some [.str s]:=rfl
@[simp] theorem aoI{s:ByteArray}:fI (.str s)=some [.str s]:=rfl
@[simp] theorem asw  : dI .lV=true:=rfl
@[simp] theorem aoJ  : bL .lV=true:=rfl
@[simp] theorem asx  : aU .lV = []:=rfl
@[simp] theorem asy  : eB .lV = []:=rfl
@[simp] theorem ayA{rows:Rows}:fz rows .lV = .lV:=rfl
@[simp] theorem ayB{rows:Rows}:pz rows .lV = .lV:=rfl
@[simp] theorem asz{rows:Rows}  : iT rows .lV=True:=rfl
@[simp] theorem alG  : cQ .lV=some [.lV]:=rfl
@[simp] theorem alH  : fI .lV=some [.lV]:=rfl
@[simp] theorem auQ  : dI .nil=true:=rfl
@[simp] theorem asA  : bL .nil=true:=rfl
@[simp] theorem auR  : aU .nil = []:=rfl
@[simp] theorem auS{rows:Rows}  : iT rows .nil=True:=rfl
@[simp] theorem aoK  : cQ .nil=some [.nil]:=rfl
@[simp] theorem aoL  : fI .nil=some [.nil]:=rfl
@[simp] theorem ayC{l:List (List PV)}:dI (.sl l)=true:=rfl
@[simp] theorem auT{l:List (List PV)}:bL (.sl l)=true:=rfl
@[simp] theorem ayD{l:List (List PV)}:aU (.sl l) = []:=rfl
@[simp] theorem ayE{rows:Rows}{l:List (List PV)}:iT rows (.sl l)=True:=rfl
@[simp] theorem asB{l:List (List PV)}:cQ (.sl l)=some [.sl l]:=rfl
@[simp] theorem asC{l:List (List PV)}:fI (.sl l)=some [.sl l]:=rfl
@[simp] theorem auU{l:List (List PV)}:dI (.jA l)=true:=rfl
@[simp] theorem asD{l:List (List PV)}:bL (.jA l)=true:=rfl
@[simp] theorem auV{l:List (List PV)}:aU (.jA l) = []:=rfl
@[simp] theorem auW{rows:Rows}{l:List (List PV)}:iT rows (.jA l)=True:=rfl
@[simp] theorem aoM{l:List (List PV)}:cQ (.jA l)=some [.jA l]:=rfl
@[simp] theorem aoN{l:List (List PV)}:fI (.jA l)=some [.jA l]:=rfl
@[simp] theorem aiq{l:List PV}:dI (.rd l)=true:=rfl
@[simp] theorem ad9{l:List PV}:bL (.rd l)=true:=rfl
@[simp] theorem air{l:List PV}:aU (.rd l) = []:=rfl
@[simp] theorem ayF{rows:Rows}{l:List PV}:iT rows (.rd l)=True:=rfl
@[simp] theorem asE{l:List PV}:cQ (.rd l)=some [.rd l]:=rfl
@[simp] theorem asF{l:List PV}:fI (.rd l)=some [.rd l]:=rfl
@[simp] theorem ayG{f:FuncId}{l:List PV}:dI (.fn f l)=true:=rfl
@[simp] theorem auX{f:FuncId}{l:List PV}:bL (.fn f l)=true:=rfl
@[simp] theorem ayH{f:FuncId}{l:List PV}:aU (.fn f l) = []:=rfl
@[simp] theorem ayI{rows:Rows}{f:FuncId}{l:List PV}:iT rows (.fn f l)=True:=rfl
@[simp] theorem asG{f:FuncId}{l:List PV}:cQ (.fn f l)=some [.fn f l]:=rfl
@[simp] theorem asH{f:FuncId}{l:List PV}:fI (.fn f l)=some [.fn f l]:=rfl
@[simp] theorem ayJ{l:List PV}:dI (.ag l)=l.all bL:=rfl
@[simp] theorem auY{l:List PV}:dI (.dX l)=true:=rfl
@[simp] theorem asI{l:List PV}:cQ (.ag l)=some l:=rfl
@[simp] theorem asJ{l:List PV}:fI (.ag l)=some l:=rfl
@[simp] theorem auZ{id v o l:Nat}:aU (.own id v o l) = [id]:=rfl
@[simp] theorem au0{id v o l:Nat}:aU (.ptr id v o l) = [id]:=rfl
@[simp] theorem aoO{id v o l:Nat}:cQ (.own id v o l)=some [.own id v o l]:=rfl
@[simp] theorem aoP{id v o l:Nat}:cQ (.ptr id v o l)=some [.ptr id v o l]:=rfl
def rowAt(o:Option Row)(ver:Nat):Prop:=∃r,o=some r∧r.ver=ver
@[simp] theorem aoQ{r:Row}{ver:Nat}:rowAt (some r) ver=(r.ver=ver):=by simp [rowAt]
@[simp] theorem au1{rows:Rows}{id v o l:Nat}:iT rows (.own id v o l)=rowAt (rows id) v:=rfl
@[simp] theorem au2{rows:Rows}{id v o l:Nat}:iT rows (.ptr id v o l)=rowAt (rows id) v:=rfl
@[simp] theorem asK{e l:List PV}{j:Nat}:iO [e] 0 j l = [e.take j++l++e.drop (j+l.length)]:=by simp [iO]
@[simp] theorem asL{e:List PV}{n:Nat}:vG [e] 0 n=(n≤e.length):=by simp [vG]
@[simp] theorem asM{E:Env}{σ:PS}{t:Tmp}{rs:List ResultVar}{K:List PV→Prop}:n4 E σ (.tmp t::rs) K=n4 E σ rs fun vs=>K (σ.f t::vs):=rfl
@[simp] theorem asN{E:Env}{σ:PS}{K:List PV→Prop}:n4 E σ [] K=K []:=rfl
@[simp] theorem aoR{E:Env}{σ:PS}{a:Tmp}{t:TypeId}{rs:List ResultVar}{K:List PV→Prop}:n4 E σ (.cell a t::rs) K=l8 E t σ.rows (σ.f a) fun v=>n4 E σ rs fun vs=>K (v::vs):=by
 show(∃v,u0 E t σ.rows (σ.f a) v∧n4 E σ rs fun vs=>K (v::vs))=_
 rw [←vQ];rfl
@[simp] theorem ais{E:Env}{ops:List Oper}{K:PS→Prop}{f:Nat→PV}{rows:Rows}{clk:Nat}:go (iA E 0 ops K ⟨f,rows,clk⟩)=go (aQ E ops clk 0 ops K ⟨f,rows,fun _ _=>False,fun _ _=>False⟩):=G0
theorem wrap_i64{n:Int}(h1 : -9223372036854775808≤n)(h2:n<9223372036854775808):IntKind.i64.wrap n=n:=by
 have e:IntKind.i64.wrap n=if n%18446744073709551616≥9223372036854775808 then n%18446744073709551616-18446744073709551616 else n%18446744073709551616:=by
  simp [IntKind.wrap,IntKind.bits,IntKind.signed]
 rw [e]
 split<;>omega
theorem wrap_u64{n:Int}(h1:0≤n)(h2:n<18446744073709551616):IntKind.u64.wrap n=n:=by
 simp only [IntKind.wrap,IntKind.bits,IntKind.signed,Bool.false_and,Bool.false_eq_true,if_false]
 omega
theorem wrap_u32{n:Int}(h1:0≤n)(h2:n<4294967296):IntKind.u32.wrap n=n:=by
 simp only [IntKind.wrap,IntKind.bits,IntKind.signed,Bool.false_and,Bool.false_eq_true,if_false]
 omega
theorem wA:(∀n:Int, -9223372036854775808≤n→n<9223372036854775808→IntKind.i64.wrap n=n)∧(∀n:Int,0≤n→n<18446744073709551616→IntKind.u64.wrap n=n)∧(∀n:Int,0≤n→n<4294967296→IntKind.u32.wrap n=n) ∧
  (∀a b:Int,0≤a→a.tdiv b=a/b)∧(∀a b:Int,0≤a→a.tmod b=a%b):=⟨fun _=>wrap_i64,fun _=>wrap_u64,fun _=>wrap_u32,fun _ _ h=>Int.tdiv_eq_ediv_of_nonneg h,fun _ _ h=>Int.tmod_eq_emod_of_nonneg h⟩
theorem gw:(∀ {c B:Prop},c→aJ c B=go B)∧(∀n:Int, -9223372036854775808≤n→n<9223372036854775808→IntKind.i64.wrap n=n)∧(∀n:Int,0≤n→n<18446744073709551616→IntKind.u64.wrap n=n)∧(∀n:Int,0≤n→n<4294967296→IntKind.u32.wrap n=n) ∧
  (∀a b:Int,0≤a→a.tdiv b=a/b)∧(∀a b:Int,0≤a→a.tmod b=a%b):=⟨gA,wA⟩
theorem wrap_u8{n:Int}(h1:0≤n)(h2:n<256):IntKind.u8.wrap n=n:=by
 simp only [IntKind.wrap,IntKind.bits,IntKind.signed,Bool.false_and,Bool.false_eq_true,if_false]
 omega
theorem kI{n:Int}:IntKind.u64.wrap n=n%18446744073709551616:=by
 simp only [IntKind.wrap,IntKind.bits,IntKind.signed,Bool.false_and,Bool.false_eq_true,if_false]
 rfl
theorem wrap_u32'{n:Int}:IntKind.u32.wrap n=n%4294967296:=by
 simp only [IntKind.wrap,IntKind.bits,IntKind.signed,Bool.false_and,Bool.false_eq_true,if_false]
 rfl
section
variable {E:Env} {n:Nat} {tl:Nat→Nat} {Q:PX→PS→Prop} {σ:PS}
theorem W.bY{id:Nat}{ops:List Oper}(h:∀K:PS→Prop,(∀σ,Q .normal σ→K σ)→go (aO E ops ops K σ)):W E n tl (.region id ops.toArray false) Q σ:=W.OH h
theorem W.NB{id:Nat}{ops:List Oper}(h:∀K:PS→Prop,(∀σ,Q .normal σ→K σ)→go (iA E (tl id) ops K σ)):W E n tl (.region id ops.toArray true) Q σ:=W.adl h
theorem W.dS{id:Nat}{ops:List Oper}{y:Code}(h:∀K:PS→Prop,(∀σ,W E n tl y Q σ→K σ)→go (aO E ops ops K σ)):W E n tl (.seq (.region id ops.toArray false) y) Q σ:=W.TT h
theorem W.aaT{id:Nat}{ops:List Oper}{y:Code}(h:∀K:PS→Prop,(∀σ,W E n tl y Q σ→K σ)→go (iA E (tl id) ops K σ)):W E n tl (.seq (.region id ops.toArray true) y) Q σ:=W.adm h
end
section
variable {E:Env} {n:Nat} {tl:Nat→Nat} {Q:PX→PS→Prop} {σ:PS}
theorem W.aY{c:Code}(I:Nat→PS→Prop)(k:Nat)(h0:∃σ0,Gh n σ σ0∧I k σ0)(h1:∀k σ,I k σ→W E n tl c (GQ (fun σ'=>∃m σ'',Gh n σ' σ''∧m<k∧I m σ'') Q) σ):W E n tl (.loop c) Q σ:=by
 obtain⟨σ0,hg,h0⟩:=h0
 refine W.ghost hg ?_
 refine W.loop (fun k σ=>∃σ',Gh n σ σ'∧I k σ') k ⟨σ0,fun _ _ _ _ _ h=>h,h0⟩ ?_
 rintro k σ ⟨σ',hg,hI⟩
 refine W.ghost hg (W.mono (h1 k σ' hI) fun x τ hx=>?_)
 cases x with
 | normal=>obtain⟨m,σ'',h2,h3,h4⟩:=hx;exact⟨m,h3,σ'',h2,h4⟩
 | exit id=>exact hx
 | ret=>exact hx
theorem Gh.refl:Gh n σ σ:=fun _ _ _ _ _ h=>h
theorem W.aea{c:Operand}{t e:Code}(b:Prop)[Decidable b](hc:aS σ.f c = .bool (decide b))(h1:b→W E n tl t Q σ)(h2:¬b→W E n tl e Q σ):W E n tl (.cond c t e) Q σ:=W.cond ⟨_,hc,fun h=>h1 (of_decide_eq_true h),fun h=>h2 (of_decide_eq_false h)⟩
theorem W.ghf{f:Nat→PV}{rows:Rows}{clk:Nat}{c:Code}(l:List (Nat × PV))(hl:∀p∈l,f p.1=p.2)(h:W E n tl c Q ⟨fa l,rows,clk⟩):W E n tl c Q ⟨f,rows,clk⟩:=by
 have:=aB (f:=f) (rows:=rows) (clk:=clk) n (l.map (·.1))
 have e:((l.map (·.1)).map fun i=>(i,f i))=l:=by
  rw [List.map_map]
  conv=>rhs;rw [←List.map_id l]
  exact List.map_congr_left fun p hp=>by simp [hl p hp]
 rw [e]at this
 exact W.ghost this h
theorem Gh.fr{f:Nat→PV}{rows:Rows}{clk:Nat}(l:List (Nat × PV))(hl:∀p∈l,f p.1=p.2):Gh n ⟨f,rows,clk⟩ ⟨fa l,rows,clk⟩:=by
 have:=aB (f:=f) (rows:=rows) (clk:=clk) n (l.map (·.1))
 have e:((l.map (·.1)).map fun i=>(i,f i))=l:=by
  rw [List.map_map]
  conv=>rhs;rw [←List.map_id l]
  exact List.map_congr_left fun p hp=>by simp [hl p hp]
 rw [e]at this
 exact this
end
theorem dA{E:Env}{AQ:FuncId}{fn:Func}{code:Code}(tl:Nat→Nat){args:List PV}{r:PV}(l:List (Nat × PV))(h1:E.P.funcs[AQ]? = some fn)(h2:fn.body=some code) (h3:(fn.name == "runtime.NumGoroutine") = false)
  (fT:fF E fn.ntmps tl code=true) (fB:args.length≤fn.ntmps) (hl:∀p∈l,args.getD p.1 .undef=p.2) (h:W E fn.ntmps tl code (adi E fn.results.toList r) ⟨fa l,fun _=>none,0⟩):aE E.P AQ args r:=
 adn tl h1 h2 h3 fT fB (W.ghf l (by simpa using hl) h)
end Pm
namespace Pm
@[simp] theorem ayL{a:Int}:Int.fdiv a 4294967296=a/4294967296:=Int.fdiv_eq_ediv_of_nonneg a (by decide)
@[simp] theorem ayM{a:Int}:Int.fdiv a 9223372036854775808=a/9223372036854775808:=Int.fdiv_eq_ediv_of_nonneg a (by decide)
attribute [simp] Go.IntKind.bits
end Pm
namespace Pm
open Go Go.RowKit
section
variable {E:Env} {n:Nat} {tl:Nat→Nat} {Q:PX→PS→Prop} {σ:PS}
theorem W.iB{x y:Code}(J:PS→Prop)(h:W E n tl x (GQ (fun σ=>∃σ',Gh n σ σ'∧J σ') Q) σ)(hy:∀σ,J σ→W E n tl y Q σ):W E n tl (.seq x y) Q σ:=
 W.seq (W.mono h fun x σ hx=>by
  cases x with
  | normal=>obtain⟨σ',hg,hJ⟩:=hx;exact W.ghost hg (hy σ' hJ)
  | exit id=>exact hx
  | ret=>exact hx)
def UI(J:PS→Prop)(Q:PX→PS→Prop):PX→PS→Prop
 | .normal,σ=>J σ
 | .exit id,σ=>Q (.exit id) σ
 | .ret,σ=>Q .ret σ
theorem W.dW{id:Nat}{x y:Code}(J:PS→Prop)(h:W E n tl x (GR id (UI (fun σ=>∃σ',Gh n σ σ'∧J σ') Q)) σ)(hy:∀σ,J σ→W E n tl y Q σ):W E n tl (.seq (.block id x) y) Q σ:=
 W.seq (W.block (W.mono h fun x σ hx=>by
  cases x with
  | normal=>obtain⟨σ',hg,hJ⟩:=hx;exact W.ghost hg (hy σ' hJ)
  | exit j =>
   simp only [GR]at hx ⊢
   split
   ·rename_i hj;rw [if_pos hj]at hx;obtain⟨σ',hg,hJ⟩:=hx;exact W.ghost hg (hy σ' hJ)
   ·rename_i hj;rw [if_neg hj]at hx;exact hx
  | ret=>exact hx))
theorem W.eD{id:Nat}{ops:List Oper}{y:Code}(J:PS→Prop)(h:∀K:PS→Prop,(∀σ σ',Gh n σ σ'→J σ'→K σ)→go (aO E ops ops K σ))(hy:∀σ,J σ→W E n tl y Q σ):W E n tl (.seq (.region id ops.toArray false) y) Q σ:=
 W.dS fun K hK=>h K fun σ _ hg hJ=>hK σ (W.ghost hg (hy _ hJ))
theorem W.aeb{id:Nat}{ops:List Oper}{y:Code}(J:PS→Prop)(h:∀K:PS→Prop,(∀σ σ',Gh n σ σ'→J σ'→K σ)→go (iA E (tl id) ops K σ))(hy:∀σ,J σ→W E n tl y Q σ):W E n tl (.seq (.region id ops.toArray true) y) Q σ:=
 W.aaT fun K hK=>h K fun σ _ hg hJ=>hK σ (W.ghost hg (hy _ hJ))
@[simp] theorem alI{J:PS→Prop}:UI J Q .normal σ=J σ:=rfl
@[simp] theorem au3{J:PS→Prop}:UI J Q .ret σ=Q .ret σ:=rfl
@[simp] theorem asO{J:PS→Prop}{id:Nat}:UI J Q (.exit id) σ=Q (.exit id) σ:=rfl
@[simp] theorem alJ{J:PS→Prop}:GQ J Q .normal σ=J σ:=rfl
@[simp] theorem au4{J:PS→Prop}:GQ J Q .ret σ=Q .ret σ:=rfl
@[simp] theorem asP{J:PS→Prop}{id:Nat}:GQ J Q (.exit id) σ=Q (.exit id) σ:=rfl
@[simp] theorem alK{id:Nat}:GR id Q .normal σ=Q .normal σ:=rfl
@[simp] theorem au5{id:Nat}:GR id Q .ret σ=Q .ret σ:=rfl
@[simp] theorem asQ{id j:Nat}:GR id Q (.exit j) σ=if j=id then Q .normal σ else Q (.exit j) σ:=rfl
theorem pX:(∀(Q:PX→PS→Prop) (σ:PS) (id j:Nat),GR id Q (.exit j) σ=if j=id then Q .normal σ else Q (.exit j) σ)∧(∀(Q:PX→PS→Prop) (σ:PS) (id:Nat),GR id Q .normal σ=Q .normal σ)∧(∀(Q:PX→PS→Prop) (σ:PS) (id:Nat),GR id Q .ret σ=Q .ret σ) ∧
  (∀(J:PS→Prop) (Q:PX→PS→Prop) (σ:PS) (id:Nat),GQ J Q (.exit id) σ=Q (.exit id) σ)∧(∀(J:PS→Prop) (Q:PX→PS→Prop) (σ:PS),GQ J Q .normal σ=J σ)∧(∀(J:PS→Prop) (Q:PX→PS→Prop) (σ:PS),GQ J Q .ret σ=Q .ret σ) ∧
  (∀(J:PS→Prop) (Q:PX→PS→Prop) (σ:PS) (id:Nat),UI J Q (.exit id) σ=Q (.exit id) σ)∧(∀(J:PS→Prop) (Q:PX→PS→Prop) (σ:PS),UI J Q .normal σ=J σ)∧(∀(J:PS→Prop) (Q:PX→PS→Prop) (σ:PS),UI J Q .ret σ=Q .ret σ):=
 ⟨fun _ _ _ _=>rfl,fun _ _ _=>rfl,fun _ _ _=>rfl,fun _ _ _ _=>rfl,fun _ _ _=>rfl,fun _ _ _=>rfl,fun _ _ _ _=>rfl,fun _ _ _=>rfl,fun _ _ _=>rfl⟩
end
end Pm
namespace Pm
open Go
theorem au6{P:Program}{g:FuncId}{fE:List PV}{rows:Rows}{clk:Nat}{K:PV→Rows→Nat→Prop}{R:PV→Rows→Nat→Prop}(h:NS P g fE rows clk R)(hK:∀r rows' iM,R r rows' iM→go (K r rows' iM)):w5 P g fE rows clk K:=⟨R,h,hK⟩
theorem aC{P:Program}{g:FuncId}{args:List PV}{K:PV→Prop}{v:PV}(h:aE P g args v)(hK:go (K v)):xA P g args K:=⟨v,h,hK⟩
theorem W.aec{E:Env}{n:Nat}{tl:Nat→Nat}{c:Code}{Q:PX→PS→Prop}{f:Nat→PV}{rows:Rows}{clk:Nat}(l:List Nat)(h:∀K:PS→Prop,(∀σ,W E n tl c Q σ→K σ)→K ⟨fa (l.map fun i=>(i,f i)),rows,clk⟩):W E n tl c Q ⟨f,rows,clk⟩:=W.live l (h _ fun _ h=>h)
theorem W.lv{E:Env}{n:Nat}{tl:Nat→Nat}{c:Code}{Q:PX→PS→Prop}{f:Nat→PV}{rows:Rows}{clk:Nat}{K0:PS→Prop}(l:List Nat)(hK:∀σ,W E n tl c Q σ→K0 σ)(h:∀K:PS→Prop,(∀σ,W E n tl c Q σ→K σ)→K ⟨fa (l.map fun i=>(i,f i)),rows,clk⟩):K0 ⟨f,rows,clk⟩:=hK _ (W.aec l h)
inductive Bx(P:PS→Prop):Type
  | mk
def aW{P:PS→Prop}(_:Bx P)(σ:PS):Prop:=P σ
theorem W.lw{E:Env}{n:Nat}{tl:Nat→Nat}{c:Code}{Q:PX→PS→Prop}{f:Nat→PV}{rows:Rows}{clk:Nat}{K0:PS→Prop}(l:List Nat)(hK:∀σ,W E n tl c Q σ→K0 σ)(h:aW (Bx.mk (P:=W E n tl c Q)) ⟨fa (l.map fun i=>(i,f i)),rows,clk⟩):K0 ⟨f,rows,clk⟩:=hK _ (W.aec l fun _ q=>q _ h)
theorem W.lx{E:Env}{n:Nat}{tl:Nat→Nat}{c:Code}{Q:PX→PS→Prop}{f:Nat→PV}{rows:Rows}{clk:Nat}(l:List Nat)(h:aW (Bx.mk (P:=W E n tl c Q)) ⟨fa (l.map fun i=>(i,f i)),rows,clk⟩):aW (Bx.mk (P:=W E n tl c Q)) ⟨f,rows,clk⟩:=W.aec l fun _ q=>q _ h
theorem W.sr{E:Env}{n:Nat}{tl:Nat→Nat}{Q:PX→PS→Prop}{σ:PS}{id:Nat}{ops:List Oper}{y:Code}(h:go (aO E ops ops (aW (Bx.mk (P:=W E n tl y Q))) σ)):W E n tl (.seq (.region id ops.toArray false) y) Q σ:=by
  refine W.seq ?_
  intro fT w0 S0 G a w Q' hR hQ
  simp only [fF,sJ,Bool.and_eq_true]at fT
  refine wp_region_list (iX (fun σ' a' w' hk lZ=>hQ .normal σ' a' w' hk lZ) _ σ a w (fun o ho t ht=>?_) h hR)
  have:=Array.all_eq_true_iff_forall_mem.1 fT.1 o (by simpa using ho)
  simpa [ht]using this
theorem W.sd{E:Env}{n:Nat}{tl:Nat→Nat}{Q:PX→PS→Prop}{σ:PS}{id:Nat}{ops:List Oper}{y:Code}(h:go (iA E (tl id) ops (aW (Bx.mk (P:=W E n tl y Q))) σ)):W E n tl (.seq (.region id ops.toArray true) y) Q σ:=by
  refine W.seq ?_
  intro fT w0 S0 G a w Q' hR hQ
  exact vD (by simpa [fF]using fT) h hR fun σ' a' w' hk lZ=>hQ .normal σ' a' w' hk lZ
end Pm
namespace Pm
open Go Go.RowKit
def Wk(p q:PV):Prop:=q=p∨(p = .nil∧q = .sl [])
theorem Wk.rep{c:Cx}{p q:PV}{v:Value}(h:Wk p q)(hr:aM c p v):aM c q v:=by
 rcases h with rfl | ⟨rfl,rfl⟩
 ·exact hr
 ·simp only [aM,dK]at hr ⊢
  exact⟨none,0,by simpa using hr,by simp,by simp, .inl trivial⟩
theorem bF.flat{α β:Type}{R:α→β→Prop}:∀ {l:List (List α)} {m:List (List β)},bF (bF R) l m→bF R l.flatten m.flatten
 | [],[],_=>trivial
 | a::l,b::m,h=>by
  obtain⟨h1,h2⟩:=h
  have ih:=bF.flat h2
  clear h2
  induction a generalizing b with
  | nil=>cases b with
   | nil=>exact ih
   | cons=>exact h1.elim
  | cons x a iha=>cases b with
   | nil=>exact h1.elim
   | cons y b=>exact⟨h1.1,iha b h1.2⟩
theorem aoS{n id ver e m clk:Nat}{f:Nat→PV}{rows:Rows}{els BQ:List (List PV)}(hr:rows id=some ⟨ver,e,m,els⟩)(hw:bF (bF fun q p=>Wk p q) BQ els):Gh n ⟨f,rows,clk⟩ ⟨f,eC rows id (some ⟨ver,e,m,BQ⟩),clk⟩:=by
 rintro w0 S0 G a w ⟨⟨c,rfl,kV,gE,hI,hf,hG⟩,h7,h8⟩
 have kZ:c.rows id=some ⟨ver,e,m,els⟩:=by rw [kV];exact hr
 obtain⟨⟨xs,g1,g2,g3⟩,g4,g5,g6⟩:=hI.row id _ kZ
 have hlen:BQ.length=els.length:=hw.length
 obtain⟨qN,hA⟩:=hI.eC (w':=c.w) (r':=⟨ver,e,m,BQ⟩) (xs:=xs) kZ (World.grownBy.refl _ _) (by simp only [hlen];exact g1)
  (by
   have h1:=bF.flat hw
   have:∀ {l:List PV} {k:List PV} {vs:List Value},bF (fun q p=>Wk p q) l k→bF (aM c) k vs→bF (aM c) l vs:=by
    intro l
    induction l with
    | nil=>intro k vs h h';cases k with
     | nil=>exact h'
     | cons=>exact h.elim
    | cons x l ih=>intro k vs h h';cases k with
     | nil=>exact h.elim
     | cons y k=>cases vs with
      | nil=>exact h'.elim
      | cons v vs=>exact⟨h.1.rep h'.1,ih h.2 h'.2⟩
   exact this h1 g2) g3 (fun el nS=>by
   obtain⟨k,hk⟩:=List.getElem?_of_mem nS
   obtain⟨b,hb,h1⟩:=hw.get hk
   rw [h1.length]
   exact g4 b (List.mem_of_getElem? hb)) rfl rfl hlen
 refine⟨⟨{ c with rows:=eC c.rows id (some ⟨ver,e,m,BQ⟩) },rfl,by simp [kV],gE,qN,fun s=>aI.uZ hA _ _ (hf s),fun p hp=>aI.uZ hA _ _ (hG p hp)⟩,h7,h8⟩
theorem aoT{n s id e m clk:Nat}{f:Nat→PV}{rows:Rows}(hs:f s = .nil)(hm:0<m):Gh n ⟨f,rows,clk⟩ ⟨put f (some s) (.own id clk 0 0),eC rows id (some ⟨clk,e,m,[]⟩),clk+1⟩:=by
 rintro w0 S0 G a w ⟨⟨c,rfl,kV,gE,hI,hf,hG⟩,h7,h8⟩
 obtain⟨qN,hA⟩:=hI.set (w':=c.w) (ob:=none) (id:=id) (r':=⟨clk,e,m,[]⟩) (v':=.slice none 0 0) (xs:=[]) (World.grownBy.refl _ _) (by simp) ⟨by simp, .inl ⟨rfl,rfl⟩⟩ (by simp [bF]) (by simp) (by simp) hm (by simp [Value.ownBlock]) (fun hu=>Nat.lt_irrefl _ (gE _ hu))
 refine⟨⟨{ c with β:=eC c.β id (.slice none 0 0),rows:=eC c.rows id (some ⟨clk,e,m,[]⟩),used:=fun v=>v=clk∨c.used v },rfl,by simp [kV],fun v hv=>by
  show v<clk+1
  rcases hv with rfl | hv
  ·omega
  ·have:v<clk:=gE v hv
   omega,qN,fun t=>?_,fun p hp=>aI.uZ hA _ _ (hG p hp)⟩,h7,h8⟩
 simp only [put]
 split
 ·rename_i ht
  subst ht
  have h1:=hf t
  simp only at h1
  rw [hs]at h1
  simp only [aI,aM,dK]at h1
  simp only [aI,aM]
  refine⟨.inl (by first | rfl | trivial),fun r hr hv=>?_⟩
  simp only [fX,Option.some.injEq]at hr
  subst hr
  exact⟨by simp, .inl ⟨trivial,none,0,0,by simp [eC],h1⟩⟩
 ·exact aI.uZ hA _ _ (hf t)
theorem O3{α β:Type}{R:α→β→Prop}{x:α}{y:β}(h:R x y):∀k:Nat,bF R (List.replicate k x) (List.replicate k y)
 | 0=>trivial
 | k+1=>⟨h,O3 h k⟩
section
variable {E:Env} {n:Nat} {tl:Nat→Nat} {Q:PX→PS→Prop} {c:Code} {f:Nat→PV} {rows:Rows} {clk:Nat}
theorem W.row{id ver e m:Nat}{els:List (List PV)}(BQ:List (List PV))(hr:rows id=some ⟨ver,e,m,els⟩)(hw:bF (bF fun q p=>Wk p q) BQ els)(h:W E n tl c Q ⟨f,eC rows id (some ⟨ver,e,m,BQ⟩),clk⟩):W E n tl c Q ⟨f,rows,clk⟩:=W.ghost (aoS hr hw) h
theorem W.nil(s id e m:Nat)(hs:f s = .nil)(hm:0<m)(h:∀K:PS→Prop,(∀σ,W E n tl c Q σ→K σ)→K ⟨put f (some s) (.own id clk 0 0),eC rows id (some ⟨clk,e,m,[]⟩),clk+1⟩):W E n tl c Q ⟨f,rows,clk⟩:=W.ghost (aoT hs hm) (h _ fun _ h=>h)
end
def fzP(o:Option Row)(ver i j:Nat):PV:=
 match o with
 | some r=>if r.ver=ver then .rd ((r.els.getD i []).drop j)else .undef
 | none => .undef
@[simp] theorem aAK{rows:Rows}{id ver i j:Nat}:fz rows (.ptr id ver i j)=fzP (rows id) ver i j:=rfl
@[simp] theorem aAL{rows:Rows}{id ver i j:Nat}:pz rows (.ptr id ver i j)=fzP (rows id) ver i j:=rfl
@[simp] theorem ayN{ver e n:Nat}{el:List PV}:fzP (some ⟨ver,e,n,[el]⟩) ver 0 0 = .rd el:=by simp [fzP]
@[simp] theorem au7{id ver i j:Nat}:eB (.ptr id ver i j) = [id]:=rfl
@[simp] theorem alL{ver e n:Nat}{el:List PV}:c9 (some ⟨ver,e,n,[el]⟩) = ∀p∈el,bL p=true:=by simp [c9]
end Pm
namespace Pm
open Go
theorem gB{E:Env}{m:Nat}{ops:List Oper}{K:PS→Prop}{f:Nat→PV}{rows:Rows}{clk:Nat}:go (iA E (m+1) ops K ⟨f,rows,clk⟩)=go (aQ E ops clk 0 (ops.take (ops.length-(m+1))) (aO E ops (ops.drop (ops.length-(m+1))) K) ⟨f,rows,fun _ _=>False,fun _ _=>False⟩):=by
 simp [iA]
end Pm
namespace Pm
open Go Go.RowKit
def NC(rows:Rows)(id:Nat):PV→PV
 | .own i ver off len=>if i=id then fz rows (.own i ver off len)else .own i ver off len
 | .ptr i ver a j=>if i=id then fz rows (.ptr i ver a j)else .ptr i ver a j
 | p=>p
def KR(rows:Rows)(id:Nat):PV→PV
 | .ag l => .ag (l.map (NC rows id))
 | p=>NC rows id p
theorem KT{w0:World}{S0:eG}{c:Cx}(hI:Inv w0 S0 c){id:Nat}(hp:∀r,c.rows id=some r → ∀e∈r.els,∀p∈e,bL p=true){p:PV}{v:Value}(h:aM c p v):aM (F6 c [id]) (NC c.rows id p) v:=by
 have yT:∀i ∈ [id],∀r,c.rows i=some r → ∀e∈r.els,∀p∈e,bL p=true:=by intro i hi;simp at hi;subst hi;exact hp
 have key:∀q:PV,aM c q v→(∀i∈aU q,i ∈ [id])→(fz c.rows q = .undef∨bL (fz c.rows q)=true)→aM (F6 c [id]) (fz c.rows q) v:=by
  intro q hq hi ho
  rcases ho with ho | ho
  ·rw [ho];simp [aM]
  ·exact aM.j0 (JV hI yT hq hi ho)
 cases p with
 | own i ver off len =>
  simp only [NC]
  split
  ·rename_i hi
   subst hi
   refine key _ h (by simp [aU]) ?_
   simp only [fz]
   cases c.rows i with
   | none=>exact .inl rfl
   | some r =>
    simp only
    split
    ·exact .inr rfl
    ·exact .inl rfl
  ·exact aM.uZ (nK c [id]) _ _ h
 | ptr i ver a j =>
  simp only [NC]
  split
  ·rename_i hi
   subst hi
   refine key _ h (by simp [aU]) ?_
   simp only [fz]
   cases c.rows i with
   | none=>exact .inl rfl
   | some r =>
    simp only
    split
    ·exact .inr rfl
    ·exact .inl rfl
  ·exact aM.uZ (nK c [id]) _ _ h
 | _=>exact aM.uZ (nK c [id]) _ _ h
theorem XR{w0:World}{S0:eG}{c:Cx}(hI:Inv w0 S0 c){id:Nat}(hp:∀r,c.rows id=some r → ∀e∈r.els,∀p∈e,bL p=true){p:PV}{v:Value}(h:aI c p v):aI (F6 c [id]) (KR c.rows id p) v:=by
 cases p with
 | ag l =>
  obtain⟨vs,h1,h2⟩:=h
  refine⟨vs,h1,bF.cZ (by simp [h2.length]) fun k a b ha hb=>?_⟩
  simp at ha
  obtain⟨q,hq,rfl⟩:=ha
  obtain⟨b',kY,hr⟩:=h2.get hq
  rw [hb]at kY;cases kY
  exact KT hI hp hr
 | _ =>
  simp only [aI]at h
  have:=KT hI hp h
  simp only [KR]
  exact(by
   first
    | (simp only [NC,aI]at this ⊢;exact this)
    | (simp only [NC]at this ⊢
       split
       · rename_i hi;rw [if_pos hi]at this;simp only [fz]at this ⊢;revert this;split<;>(try split)<;>exact fun h=>h
       · rename_i hi;rw [if_neg hi]at this;exact this))
theorem H0{rows:Rows}{id:Nat}:KR rows id .undef = .undef:=rfl
theorem aed{l:List (Nat × PV)}{g:PV→PV}(hg:g .undef = .undef):(fun s=>g (fa l s))=fa (l.map fun p=>(p.1,g p.2)):=by
 funext s
 induction l with
 | nil=>exact hg
 | cons p l ih =>
  obtain⟨i,v⟩:=p
  simp only [fa,List.map_cons]
  split
  ·rfl
  ·exact ih
theorem aaU{n clk:Nat}{l:List (Nat × PV)}{rows:Rows}(id:Nat)(hp:c9 (rows id)):Gh n ⟨fa l,rows,clk⟩ ⟨fa (l.map fun p=>(p.1,KR rows id p.2)),HL rows [id],clk⟩:=by
 rintro w0 S0 G a w ⟨⟨c,rfl,kV,gE,hI,hf,hG⟩,h7,h8⟩
 have aee:c.rows=rows:=kV
 subst aee
 refine⟨⟨F6 c [id],rfl,rfl,gE,hI.freeze [id],fun s=>?_,fun p hp=>aI.uZ (nK c [id]) _ _ (hG p hp)⟩,h7,h8⟩
 rw [←aed (g:=KR c.rows id) H0]
 exact XR hI hp (hf s)
theorem W.freeze{E:Env}{n:Nat}{tl:Nat→Nat}{Q:PX→PS→Prop}{c:Code}{l:List (Nat × PV)}{rows:Rows}{clk:Nat}(id:Nat)(hp:c9 (rows id))(h:∀K:PS→Prop,(∀σ,W E n tl c Q σ→K σ)→K ⟨fa (l.map fun p=>(p.1,KR rows id p.2)),HL rows [id],clk⟩):W E n tl c Q ⟨fa l,rows,clk⟩:=W.ghost (aaU id hp) (h _ fun _ h=>h)
@[simp] theorem ayO{rows:Rows}{id i ver off len:Nat}:KR rows id (.own i ver off len)=if i=id then fzR (rows i) ver off len else .own i ver off len:=rfl
@[simp] theorem ayP{rows:Rows}{id i ver a j:Nat}:KR rows id (.ptr i ver a j)=if i=id then fzP (rows i) ver a j else .ptr i ver a j:=rfl
@[simp] theorem ayQ{α:Type}{g:α→List PV}{rows:Rows}{id:Nat}{l:List α}:KR rows id (aH g l)=aH g l:=rfl
@[simp] theorem ayR{rows:Rows}{id:Nat}{k:IntKind}{n:Int}:KR rows id (.int k n) = .int k n:=rfl
@[simp] theorem au8{rows:Rows}{id:Nat}{b:Bool}:KR rows id (.bool b) = .bool b:=rfl
@[simp] theorem ayS{rows:Rows}{id:Nat}:KR rows id .nil = .nil:=rfl
@[simp] theorem aAM{rows:Rows}{id:Nat}{l:List (List PV)}:KR rows id (.sl l) = .sl l:=rfl
@[simp] theorem ayT{rows:Rows}{id:Nat}{l:List (List PV)}:KR rows id (.jA l) = .jA l:=rfl
@[simp] theorem aAN{rows:Rows}{id:Nat}{l:List PV}:KR rows id (.ag l) = .ag (l.map (NC rows id)):=rfl
@[simp] theorem ayU{rows:Rows}{id:Nat}{k:IntKind}{n:Int}:NC rows id (.int k n) = .int k n:=rfl
@[simp] theorem au9{rows:Rows}{id:Nat}{b:Bool}:NC rows id (.bool b) = .bool b:=rfl
@[simp] theorem ayV{rows:Rows}{id:Nat}:NC rows id .nil = .nil:=rfl
@[simp] theorem ayW{α:Type}{g:α→List PV}{rows:Rows}{id:Nat}{l:List α}:NC rows id (aH g l)=aH g l:=rfl
theorem aiu{n s clk:Nat}{f:Nat→PV}{rows:Rows}(q:PV)(hs:f s = .nil)(hq:q = .sl []):Gh n ⟨f,rows,clk⟩ ⟨put f (some s) q,rows,clk⟩:=by
 rintro w0 S0 G a w ⟨⟨c,rfl,kV,gE,hI,hf,hG⟩,h7,h8⟩
 refine⟨⟨c,rfl,kV,gE,hI,fun t=>?_,hG⟩,h7,h8⟩
 simp only [put]
 split
 ·rename_i ht
  subst ht
  have h1:=hf t
  simp only at h1
  rw [hs]at h1
  subst hq
  simp only [aI]at h1 ⊢
  exact Wk.rep (.inr ⟨rfl,rfl⟩) h1
 ·exact hf t
theorem W.UJ{E:Env}{n:Nat}{tl:Nat→Nat}{Q:PX→PS→Prop}{c:Code}{f:Nat→PV}{rows:Rows}{clk:Nat}(s:Nat)(q:PV)(hs:f s = .nil)(hq:q = .sl [])(h:∀K:PS→Prop,(∀σ,W E n tl c Q σ→K σ)→K ⟨put f (some s) q,rows,clk⟩):W E n tl c Q ⟨f,rows,clk⟩:=W.ghost (aiu q hs hq) (h _ fun _ h=>h)
theorem XS{c:Cx}{l:List (List PV)}{v:Value}(hr:aM c (.jA l) v):aM c (.sl l) v:=by
 simp only [aM,dK]at hr ⊢
 obtain⟨a,h1,h2,h3⟩:=hr
 exact⟨a,l.length,h1,Nat.le_refl _,h2,h3⟩
theorem aiv{n s clk:Nat}{f:Nat→PV}{rows:Rows}(l:List (List PV))(q:PV)(hs:f s = .jA l)(hq:q = .sl l):Gh n ⟨f,rows,clk⟩ ⟨put f (some s) q,rows,clk⟩:=by
 rintro w0 S0 G a w ⟨⟨c,rfl,kV,gE,hI,hf,hG⟩,h7,h8⟩
 refine⟨⟨c,rfl,kV,gE,hI,fun t=>?_,hG⟩,h7,h8⟩
 simp only [put]
 split
 ·rename_i ht
  subst ht
  have h1:=hf t
  simp only at h1
  rw [hs]at h1
  subst hq
  simp only [aI]at h1 ⊢
  exact XS h1
 ·exact hf t
theorem W.aAO{E:Env}{n:Nat}{tl:Nat→Nat}{Q:PX→PS→Prop}{c:Code}{f:Nat→PV}{rows:Rows}{clk:Nat}(s:Nat)(l:List (List PV))(q:PV)(hs:f s = .jA l)(hq:q = .sl l)(h:∀K:PS→Prop,(∀σ,W E n tl c Q σ→K σ)→K ⟨put f (some s) q,rows,clk⟩):W E n tl c Q ⟨f,rows,clk⟩:=W.ghost (aiv l q hs hq) (h _ fun _ h=>h)
def D4(rows:Rows)(id:Nat):Option Row→Option Row
 | some r=>some { r with els:=r.els.map fun e=>e.map (NC rows id) }
 | none=>none
def G1(rows:Rows)(id:Nat):Rows:=fun j=>if j=id then none else D4 rows id (rows j)
@[simp] theorem ayX{rows:Rows}{id j:Nat}:G1 rows id j=if j=id then none else D4 rows id (rows j):=rfl
@[simp] theorem alM{rows:Rows}{id v e n:Nat}{els:List (List PV)}:D4 rows id (some ⟨v,e,n,els⟩)=some ⟨v,e,n,els.map fun e=>e.map (NC rows id)⟩:=rfl
@[simp] theorem alN{rows:Rows}{id:Nat}:D4 rows id none=none:=rfl
@[simp] theorem ayY{rows:Rows}{id i ver off len:Nat}:NC rows id (.own i ver off len)=if i=id then fzR (rows i) ver off len else .own i ver off len:=rfl
@[simp] theorem ayZ{rows:Rows}{id i ver a j:Nat}:NC rows id (.ptr i ver a j)=if i=id then fzP (rows i) ver a j else .ptr i ver a j:=rfl
theorem UK{n clk:Nat}{l:List (Nat × PV)}{rows:Rows}(id:Nat)(hp:c9 (rows id)):Gh n ⟨fa l,rows,clk⟩ ⟨fa (l.map fun p=>(p.1,KR rows id p.2)),G1 rows id,clk⟩:=by
 rintro w0 S0 G a w ⟨⟨c,rfl,kV,gE,hI,hf,hG⟩,h7,h8⟩
 have aee:c.rows=rows:=kV
 subst aee
 have M8:=hI.freeze [id]
 have live:∀ {j:Nat} {r':Row},G1 c.rows id j=some r'→j≠id ∧ ∃r,c.rows j=some r∧r' = { r with els:=r.els.map fun e=>e.map (NC c.rows id) }:=by
  intro j r' h
  simp only [G1]at h
  split at h
  ·cases h
  ·rename_i hj
   cases hr:c.rows j with
   | none=>rw [hr]at h;cases h
   | some r=>rw [hr]at h;simp only [D4,Option.some.injEq]at h;exact⟨hj,r,rfl,h.symm⟩
 have hA:uT (F6 c [id]) { F6 c [id]with rows:=G1 c.rows id }:=by
  refine⟨fun _ _ h=>h,fun _ _ _=>rfl,fun _ h=>h,fun j r' h=>?_⟩
  obtain⟨hj,r,hr,rfl⟩:=live h
  exact .inr ⟨r,by simp [F6,HL,hj,hr],rfl,rfl,by simp,rfl⟩
 have hI2:Inv w0 S0 { F6 c [id]with rows:=G1 c.rows id }:=by
  refine⟨M8.below,M8.ext,M8.new,M8.lt0,fun j r' h=>?_,fun j r' h=>?_,fun i j r s g hr hs=>?_,M8.fin⟩
  ·obtain⟨hj,r,hr,rfl⟩:=live h
   exact hI.clock j r hr
  ·obtain⟨hj,r,hr,rfl⟩:=live h
   obtain⟨⟨xs,g1,g2,g3⟩,g4,g5,g6⟩:=hI.row j r hr
   obtain⟨_,_,f5,_⟩:=M8.row j r (by simp [F6,HL,hj,hr])
   refine⟨⟨xs,by rw [List.length_map];exact g1,?_,g3⟩,fun e he=>?_,f5,g6⟩
   ·show bF _ (List.flatten (r.els.map fun e=>e.map (NC c.rows id))) xs
    rw [←List.map_flatten]
    refine bF.cZ (by rw [List.length_map];exact g2.length) fun k p u yT hu=>?_
    rw [List.getElem?_map]at yT
    obtain⟨q,hq,rfl⟩:=Option.map_eq_some_iff.1 yT
    obtain⟨u',hu',kZ⟩:=g2.get hq
    rw [hu]at hu';cases hu'
    exact aM.uZ hA _ _ (KT hI hp kZ)
   ·simp only [List.mem_map]at he
    obtain⟨e',r5,rfl⟩:=he
    simpa using g4 e' r5
  ·obtain⟨hi,r1,xE,rfl⟩:=live hr
   obtain⟨hj,r2,bU,rfl⟩:=live hs
   exact hI.apart i j r1 r2 g xE bU
 refine⟨⟨{ F6 c [id]with rows:=G1 c.rows id },rfl,rfl,gE,hI2,fun s=>?_,fun p hp=>aI.uZ hA _ _ (aI.uZ (nK c [id]) _ _ (hG p hp))⟩,h7,h8⟩
 show aI _ (fa (l.map fun p=>(p.1,KR c.rows id p.2)) s) _
 rw [←aed (g:=KR c.rows id) H0]
 exact aI.uZ hA _ _ (XR hI hp (hf s))
theorem W.XT{E:Env}{n:Nat}{tl:Nat→Nat}{Q:PX→PS→Prop}{c:Code}{l:List (Nat × PV)}{rows:Rows}{clk:Nat}(id:Nat)(hp:c9 (rows id))(h:∀K:PS→Prop,(∀σ,W E n tl c Q σ→K σ)→K ⟨fa (l.map fun p=>(p.1,KR rows id p.2)),G1 rows id,clk⟩):W E n tl c Q ⟨fa l,rows,clk⟩:=W.ghost (UK id hp) (h _ fun _ h=>h)
end Pm

namespace Pm
open Go
theorem bI(l:List Nat){E:Env}{n:Nat}{tl:Nat→Nat}{c:Code}{Q:PX→PS→Prop}{f:Nat→PV}{rows:Rows}{clk:Nat}{X:Prop}(hX:X)(h:X→aW (Bx.mk (P:=W E n tl c Q)) ⟨fa (l.map fun i=>(i,f i)),rows,clk⟩:=by intro hX;simp;exact hX):aW (Bx.mk (P:=W E n tl c Q)) ⟨f,rows,clk⟩:=W.lx l (h hX)
theorem jG{X G:Prop}(hX:X)(h:X→G:=by intro hX;refine W.sr ?_;simp (disch:=omega) [gw];exact hX):G:=h hX
theorem nH{X G:Prop}(hX:X)(h:X→G:=by intro hX;refine W.sd ?_;simp (disch:=omega) [gw];exact hX):G:=h hX
theorem cM{P X G:Prop}(hP:P)(hX:X)(h:P→X→G:=by intro hP hX;refine aC hP ?_;simp (disch:=omega) [gw];exact hX):G:=h hP hX
section
variable (l:List Nat) {E:Env} {n:Nat} {tl:Nat→Nat} {c:Code} {Q:PX→PS→Prop} {f:Nat→PV} {rows:Rows} {clk:Nat} {P X G:Prop}
theorem aA(hX:X)(h1:aW (Bx.mk (P:=W E n tl c Q)) ⟨f,rows,clk⟩→G:=by intro hY;refine W.sr ?_;simp (disch:=omega) [gw];exact hY)(h2:X→aW (Bx.mk (P:=W E n tl c Q)) ⟨fa (l.map fun i=>(i,f i)),rows,clk⟩:=by intro hX;simp;exact hX):G:=h1 (W.lx l (h2 hX))
theorem aK(hX:X)(h1:aW (Bx.mk (P:=W E n tl c Q)) ⟨f,rows,clk⟩→G:=by intro hY;refine W.seq ?_;refine W.sr ?_;simp (disch:=omega) [gw];exact hY)(h2:X→aW (Bx.mk (P:=W E n tl c Q)) ⟨fa (l.map fun i=>(i,f i)),rows,clk⟩:=by intro hX;simp;exact hX):G:=h1 (W.lx l (h2 hX))
theorem bT(hX:X)(h1:aW (Bx.mk (P:=W E n tl c Q)) ⟨f,rows,clk⟩→G:=by intro hY;refine W.sr ?_;simp (disch:=omega) [gw];exact hY)(h2:X→aW (Bx.mk (P:=W E n tl c Q)) ⟨fa (l.map fun i=>(i,f i)),rows,clk⟩:=by intro hX;simp;refine W.seq ?_;exact hX):G:=h1 (W.lx l (h2 hX))
theorem aL(hP:P)(hX:X)(h1:P→aW (Bx.mk (P:=W E n tl c Q)) ⟨f,rows,clk⟩→G:=by intro hP hY;refine W.sr ?_;simp (disch:=omega) [gw];refine aC hP ?_;simp (disch:=omega) [gw];exact hY)(h2:X→aW (Bx.mk (P:=W E n tl c Q)) ⟨fa (l.map fun i=>(i,f i)),rows,clk⟩:=by intro hX;simp;exact hX):G:=h1 hP (W.lx l (h2 hX))
theorem cN(hP:P)(hX:X)(h1:P→aW (Bx.mk (P:=W E n tl c Q)) ⟨f,rows,clk⟩→G:=by intro hP hY;refine aC hP ?_;simp (disch:=omega) [gw];exact hY)(h2:X→aW (Bx.mk (P:=W E n tl c Q)) ⟨fa (l.map fun i=>(i,f i)),rows,clk⟩:=by intro hX;simp;exact hX):G:=h1 hP (W.lx l (h2 hX))
end
theorem bH{X Y G:Prop}(hX:X)(hY:Y)(h:X→Y→G:=by intro hX hY;refine W.cond ⟨_,rfl,?_,?_⟩;exact hX;exact hY):G:=h hX hY
theorem eW{X G:Prop}(hX:X)(h:X→G:=by intro hX;refine W.exit ?_;simp only [pX,if_true,if_false,reduceIte,Nat.reduceEqDiff];exact hX):G:=h hX
theorem bZ{G:Prop}(h:G:=by refine W.ret ?_;simp [go]):G:=h
theorem j7{X G:Prop}(hX:X)(h:X→G:=by intro hX;refine W.skip ?_;refine W.seq ?_;refine W.block ?_;exact hX):G:=h hX
end Pm
