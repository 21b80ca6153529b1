import Derived.WalkKit
import Derived.StillTail
import Derived.Maps.AppendAt
set_option linter.unusedSimpArgs false
set_option linter.unusedVariables false
namespace Pm
open Go Go.RowKit
inductive PV where
 | undef
 | bool (b:Bool)
 | int (k:IntKind) (n:Int)
 | str (s:ByteArray)
 | nil
 | sl (l:List (List PV))
 | jA (l:List (List PV))
 | rd (l:List PV)
 | fn (f:FuncId) (caps:List PV)
 | own (id ver off len:Nat)
 | ptr (id ver i j:Nat)
 | ag (l:List PV)
 | dX (l:List PV)
 | lV
abbrev eG:=Nat→Nat→Prop
mutual
def dK(S:eG)(w:World):PV→Value→Prop
 | .undef,_=>False
 | .bool b,v=>v = .bool b
 | .int k n,v=>v = .int k n
 | .str s,v=>v = .string s
 | .nil,v=>v = .slice none 0 0
 | .sl l,v=>∃a cap,v = .slice a l.length cap∧l.length≤cap∧cap≤maxLen∧(l = [] ∨ ∃b o,a=some ⟨b,o,none⟩∧gF S w b o l)
 | .jA l,v=>∃a,v = .slice a l.length l.length∧l.length≤maxLen∧(l = [] ∨ ∃b o,a=some ⟨b,o,none⟩∧gF S w b o l)
 | .rd l,v=>∃b o,v = .pointer (some ⟨b,o,none⟩)∧dN S w b o l
 | .fn f caps,v=>∃cs,v = .func (.func f) #[] cs.toArray∧bP S w caps cs
 | .own _ _ _ _,_=>False
 | .ptr _ _ _ _,_=>False
 | .ag l,v=>∃vs,v = .agg vs.toArray∧bP S w l vs
 | .dX l,v=>∃vs,v = .tuple vs.toArray∧bP S w l vs
 | .lV,v=>v = .pointer none
def bP(S:eG)(w:World):List PV→List Value→Prop
 | [],vs=>vs = []
 | p::ps,vs=>∃v F5,vs=v::F5∧dK S w p v∧bP S w ps F5
def dN(S:eG)(w:World)(b o:Nat):List PV→Prop
 | []=>True
 | p::ps=>(∃v,w.cell? ⟨b,o,none⟩=some v∧S b o∧v.oneCell'=true∧dK S w p v)∧dN S w b (o+1) ps
def gF(S:eG)(w:World)(b o:Nat):List (List PV)→Prop
 | []=>True
 | e::es=>dN S w b o e∧gF S w b (o+e.length) es
end
section mono
variable {S S':eG} {w w':World}
mutual
theorem dK.mono(hS:∀b o,S b o→S' b o)(hw:∀b o,S b o→w'.cell? ⟨b,o,none⟩=w.cell? ⟨b,o,none⟩):∀(p:PV) (v:Value),dK S w p v→dK S' w' p v
 | .undef,_,h=>by simp [dK]at h
 | .bool b,_,h=>by simpa [dK]using h
 | .int k n,_,h=>by simpa [dK]using h
 | .str s,_,h=>by simpa [dK]using h
 | .lV,_,h=>by simpa [dK]using h
 | .nil,_,h=>by simpa [dK]using h
 | .sl l,v,h=>by
  simp only [dK]at h ⊢
  obtain⟨a,cap,h1,h2,h3,h4⟩:=h
  exact⟨a,cap,h1,h2,h3,h4.imp id fun⟨b,o,ha,hr⟩=>⟨b,o,ha,gF.mono hS hw l b o hr⟩⟩
 | .jA l,v,h=>by
  simp only [dK]at h ⊢
  obtain⟨a,h1,h3,h4⟩:=h
  exact⟨a,h1,h3,h4.imp id fun⟨b,o,ha,hr⟩=>⟨b,o,ha,gF.mono hS hw l b o hr⟩⟩
 | .rd l,v,h=>by
  simp only [dK]at h ⊢
  obtain⟨b,o,h1,h2⟩:=h
  exact⟨b,o,h1,dN.mono hS hw l b o h2⟩
 | .fn f caps,v,h=>by
  simp only [dK]at h ⊢
  obtain⟨cs,h1,h2⟩:=h
  exact⟨cs,h1,bP.mono hS hw caps cs h2⟩
 | .own _ _ _ _,_,h=>by simp [dK]at h
 | .ptr _ _ _ _,_,h=>by simp [dK]at h
 | .ag l,v,h=>by
  simp only [dK]at h ⊢
  obtain⟨cs,h1,h2⟩:=h
  exact⟨cs,h1,bP.mono hS hw l cs h2⟩
 | .dX l,v,h=>by
  simp only [dK]at h ⊢
  obtain⟨cs,h1,h2⟩:=h
  exact⟨cs,h1,bP.mono hS hw l cs h2⟩
theorem bP.mono(hS:∀b o,S b o→S' b o)(hw:∀b o,S b o→w'.cell? ⟨b,o,none⟩=w.cell? ⟨b,o,none⟩):∀(l:List PV) (vs:List Value),bP S w l vs→bP S' w' l vs
 | [],_,h=>by simpa [bP]using h
 | p::ps,vs,h=>by
  simp only [bP]at h ⊢
  obtain⟨v,F5,h1,h2,h3⟩:=h
  exact⟨v,F5,h1,dK.mono hS hw p v h2,bP.mono hS hw ps F5 h3⟩
theorem dN.mono(hS:∀b o,S b o→S' b o)(hw:∀b o,S b o→w'.cell? ⟨b,o,none⟩=w.cell? ⟨b,o,none⟩):∀(l:List PV) (b o:Nat),dN S w b o l→dN S' w' b o l
 | [],_,_,_=>by simp [dN]
 | p::ps,b,o,h=>by
  simp only [dN]at h ⊢
  obtain⟨⟨v,h1,h2,h5,h3⟩,h4⟩:=h
  exact⟨⟨v,by rw [hw b o h2];exact h1,hS b o h2,h5,dK.mono hS hw p v h3⟩,dN.mono hS hw ps b (o+1) h4⟩
theorem gF.mono(hS:∀b o,S b o→S' b o)(hw:∀b o,S b o→w'.cell? ⟨b,o,none⟩=w.cell? ⟨b,o,none⟩):∀(l:List (List PV)) (b o:Nat),gF S w b o l→gF S' w' b o l
 | [],_,_,_=>by simp [gF]
 | e::es,b,o,h=>by
  simp only [gF]at h ⊢
  exact⟨dN.mono hS hw e b o h.1,gF.mono hS hw es b (o+e.length) h.2⟩
end
end mono
def bF{α β:Type}(R:α→β→Prop):List α→List β→Prop
 | [],[]=>True
 | a::aKn,b::bs=>R a b∧bF R aKn bs
 | _,_=>False
section azT
variable {α β:Type} {R R':α→β→Prop}
theorem bF.mono(h:∀a b,R a b→R' a b):∀ {l:List α} {m:List β},bF R l m→bF R' l m
 | [],[],_=>trivial
 | _::_,_::_,hh=>⟨h _ _ hh.1,bF.mono h hh.2⟩
 | [],_::_,hh=>hh.elim
 | _::_,[],hh=>hh.elim
theorem bF.length:∀ {l:List α} {m:List β},bF R l m→l.length=m.length
 | [],[],_=>rfl
 | _::_,_::_,hh=>by simp [bF.length hh.2]
 | [],_::_,hh=>hh.elim
 | _::_,[],hh=>hh.elim
theorem bF.get:∀ {l:List α} {m:List β},bF R l m → ∀ {k:Nat} {a:α},l[k]? = some a → ∃b,m[k]? = some b∧R a b
 | [],[],_,_,_,h=>by simp at h
 | _::_,_::_,hh,0,_,h=>by simp at h;subst h;exact⟨_,by simp,hh.1⟩
 | _::_,_::_,hh,k+1,_,h=>by simp at h;simpa using bF.get hh.2 h
 | [],_::_,hh,_,_,_=>hh.elim
 | _::_,[],hh,_,_,_=>hh.elim
theorem bF.cZ:∀ {l:List α} {m:List β},l.length=m.length→(∀(k:Nat) a b,l[k]? = some a→m[k]? = some b→R a b)→bF R l m
 | [],[],_,_=>trivial
 | a::l,b::m,hl,h=>⟨h 0 a b (by simp) (by simp),bF.cZ (by simpa using hl) fun k x y hx hy=>h (k+1) x y (by simpa using hx) (by simpa using hy)⟩
 | [],_::_,hl,_=>by simp at hl
 | _::_,[],hl,_=>by simp at hl
theorem bF.append:∀ {l:List α} {m:List β} {l':List α} {m':List β},bF R l m→bF R l' m'→bF R (l++l') (m++m')
 | [],[],_,_,_,h=>by simpa using h
 | _::_,_::_,_,_,hh,h=>⟨hh.1,bF.append hh.2 h⟩
 | [],_::_,_,_,hh,_=>hh.elim
 | _::_,[],_,_,hh,_=>hh.elim
theorem bF.take{l:List α}{m:List β}(h:bF R l m)(n:Nat):bF R (l.take n) (m.take n):=
 bF.cZ (by simp [h.length]) fun k a b ha hb=>by
  rw [List.getElem?_take]at ha hb
  split at ha
  ·rename_i hk;rw [if_pos hk]at hb;obtain⟨b',kY,hr⟩:=h.get ha;rw [hb]at kY;cases kY;exact hr
  ·cases ha
theorem bF.drop{l:List α}{m:List β}(h:bF R l m)(n:Nat):bF R (l.drop n) (m.drop n):=
 bF.cZ (by simp [h.length]) fun k a b ha hb=>by
  rw [List.getElem?_drop]at ha hb
  obtain⟨b',kY,hr⟩:=h.get ha;rw [hb]at kY;cases kY;exact hr
end azT
theorem cS{S:eG}{w:World}:∀ {l:List PV} {vs:List Value},bP S w l vs↔bF (dK S w) l vs
 | [],[]=>by simp [bP,bF]
 | [],_::_=>by simp [bP,bF]
 | p::ps,[]=>by simp [bP,bF]
 | p::ps,v::vs=>by
  simp only [bP,bF]
  constructor
  ·rintro⟨v',F5,h,h1,h2⟩;cases h;exact⟨h1,cS.1 h2⟩
  ·rintro⟨h1,h2⟩;exact⟨v,vs,rfl,h1,cS.2 h2⟩
structure Row where
 ver:Nat
 e:TypeId
 size:Nat
 els:List (List PV)
abbrev Rows:=Nat→Option Row
structure Cx where
 S:eG
 w:World
 β:Nat→Value
 rows:Rows
 used:Nat→Prop
def aM(c:Cx):PV→Value→Prop
 | .undef,_=>True
 | .own id ver off len,v=>c.used ver ∧ ∀r,c.rows id=some r→r.ver=ver→off+len≤r.els.length ∧
   ((off=0 ∧ ∃a n cap,c.β id = .slice a n cap∧v = .slice a len cap) ∨
    (0<off ∧ ∃g n cap a,c.β id = .slice (some ⟨g,0,none⟩) n cap∧off≤cap∧v = .slice (some a) len (cap-off)∧(len=0∨a=⟨g,off*r.size,none⟩)))
 | .ptr id ver i j,v=>c.used ver ∧ ∀r,c.rows id=some r→r.ver=ver → ∃g n cap,c.β id = .slice (some ⟨g,0,none⟩) n cap∧v = .pointer (some ⟨g,i*r.size+j,none⟩)
 | p,v=>dK c.S c.w p v
def aI(c:Cx):PV→Value→Prop
 | .ag l,v=>∃vs,v = .agg vs.toArray∧bF (aM c) l vs
 | p,v=>aM c p v
structure atx(w0:World)(c:Cx)(id:Nat)(r:Row):Prop where
 own:∃xs,c.w.ownsRow w0.heap.size r.e r.size (c.β id) r.els.length xs∧bF (aM c) r.els.flatten xs∧(∀x∈xs,x.oneCell'=true)
 len:∀e∈r.els,e.length=r.size
 azU:∀g o,(c.β id).ownBlock=some g→¬c.S g o
 pos:0<r.size
structure Inv(w0:World)(S0:eG)(c:Cx):Prop where
 below:Below w0.heap.size w0 c.w
 ext:∀b o,S0 b o→c.S b o
 new:∀b o,c.S b o→S0 b o∨(w0.heap.size≤b∧b<c.w.heap.size)
 lt0:∀b o,S0 b o→b<w0.heap.size
 clock:∀id r,c.rows id=some r→c.used r.ver
 row:∀id r,c.rows id=some r→atx w0 c id r
 apart:∀id jO r r' g,c.rows id=some r→c.rows jO=some r'→(c.β id).ownBlock=some g→(c.β jO).ownBlock=some g→id=jO
 fin:∃N,∀v,c.used v→v<N
theorem Inv.lt{w0:World}{S0:eG}{c:Cx}(h:Inv w0 S0 c){b o:Nat}(hb:c.S b o):b<c.w.heap.size:=by
 rcases h.new b o hb with h1 | h1
 ·have:=h.lt0 b o h1;have:=h.below.size;omega
 ·exact h1.2
structure uT(c c':Cx):Prop where
 S:∀b o,c.S b o→c'.S b o
 w:∀b o,c.S b o→c'.w.cell? ⟨b,o,none⟩=c.w.cell? ⟨b,o,none⟩
 clock:∀v,c.used v→c'.used v
 rows:∀id r',c'.rows id=some r'→¬c.used r'.ver ∨ ∃r,c.rows id=some r∧r.ver=r'.ver∧r.size=r'.size∧r.els.length=r'.els.length∧c'.β id=c.β id
theorem uT.refl(c:Cx):uT c c:=⟨fun _ _ h=>h,fun _ _ _=>rfl,fun _ h=>h,fun _ r h => .inr ⟨r,h,rfl,rfl,rfl,rfl⟩⟩
theorem aM.uZ{c c':Cx}(h:uT c c'):∀(p:PV) (v:Value),aM c p v→aM c' p v:=by
 intro p v hp
 cases p with
 | undef=>simp [aM]
 | own id ver off len =>
  simp only [aM]at hp ⊢
  refine⟨h.clock _ hp.1,fun r' kZ hv=>?_⟩
  rcases h.rows id r' kZ with h1 | ⟨r,h1,h2,h3,h4,h5⟩
  ·exact absurd (show c.used r'.ver by rw [hv];exact hp.1) h1
  ·have:=hp.2 r h1 (h2.trans hv)
   rw [h5,←h3,←h4];exact this
 | ptr id ver i j =>
  simp only [aM]at hp ⊢
  refine⟨h.clock _ hp.1,fun r' kZ hv=>?_⟩
  rcases h.rows id r' kZ with h1 | ⟨r,h1,h2,h3,h4,h5⟩
  ·exact absurd (show c.used r'.ver by rw [hv];exact hp.1) h1
  ·have:=hp.2 r h1 (h2.trans hv)
   rw [h5,←h3];exact this
 | _=>simp only [aM]at hp ⊢;exact dK.mono h.S h.w _ _ hp
theorem aI.uZ{c c':Cx}(h:uT c c'):∀(p:PV) (v:Value),aI c p v→aI c' p v:=by
 intro p v hp
 cases p with
 | ag l=>obtain⟨vs,h1,h2⟩:=hp;exact⟨vs,h1,h2.mono (aM.uZ h)⟩
 | _=>simp only [aI]at hp ⊢;exact aM.uZ h _ _ hp
def bL:PV→Bool
 | .undef=>false
 | .own .. => false
 | .ptr .. => false
 | _=>true
def dI:PV→Bool
 | .ag l=>l.all bL
 | p=>bL p
theorem aM.rep{c:Cx}{p:PV}{v:Value}(h:aM c p v)(hp:bL p=true):dK c.S c.w p v:=by
 cases p<;>simp_all [bL,aM]
theorem aM.j0{c:Cx}{p:PV}{v:Value}(h:dK c.S c.w p v):aM c p v:=by
 cases p<;>simp_all [aM,dK]
theorem aI.rep{c:Cx}{p:PV}{v:Value}(h:aI c p v)(hp:dI p=true):dK c.S c.w p v:=by
 cases p with
 | ag l =>
  obtain⟨vs,h1,h2⟩:=h
  simp only [dK]
  refine⟨vs,h1,cS.2 (bF.cZ h2.length fun k a b ha hb=>?_)⟩
  obtain⟨b',kY,hr⟩:=h2.get ha
  rw [hb]at kY;cases kY
  exact hr.rep (List.all_eq_true.1 hp a (List.mem_of_getElem? ha))
 | _=>simp only [aI]at h;exact aM.rep h hp
theorem aI.j0{c:Cx}{p:PV}{v:Value}(h:dK c.S c.w p v):aI c p v:=by
 cases p with
 | ag l =>
  simp only [dK]at h
  obtain⟨vs,h1,h2⟩:=h
  exact⟨vs,h1,(cS.1 h2).mono fun _ _=>aM.j0⟩
 | _=>simp only [aI];exact aM.j0 h
theorem Inv.grow{w0:World}{S0:eG}{c:Cx}(h:Inv w0 S0 c){w':World}{S':eG}(hb:Below c.w.heap.size c.w w')
  (h1:∀b o,c.S b o→S' b o) (h2:∀b o,S' b o→c.S b o∨(c.w.heap.size≤b∧b<w'.heap.size)) :
  Inv w0 S0 { c with S:=S',w:=w' }∧uT c { c with S:=S',w:=w' }:=by
 have GF:uT c { c with S:=S',w:=w' }:=⟨h1,fun b o hbo=>hb.cell (p:=⟨b,o,none⟩) (h.lt hbo),fun _ h=>h,fun id r hr => .inr ⟨r,hr,rfl,rfl,rfl,rfl⟩⟩
 refine⟨⟨h.below.trans (hb.mono h.below.size),fun b o hh=>h1 b o (h.ext b o hh),fun b o hh=>?_,h.lt0,h.clock,fun id r hr=>?_,h.apart,h.fin⟩,GF⟩
 ·rcases h2 b o hh with h3 | h3
  ·rcases h.new b o h3 with h4 | h4
   ·exact .inl h4
   ·exact .inr ⟨h4.1,by have:=hb.size;show b<w'.heap.size;omega⟩
  ·exact .inr ⟨by have:=h.below.size;omega,h3.2⟩
 ·obtain⟨⟨xs,g1,g2,g3⟩,hlen,hnS,l5⟩:=h.row id r hr
  refine⟨⟨xs,g1.kept (row:=none) ⟨hb.os,hb.tape,hb.output,hb.size,fun k hk _=>hb.block k hk⟩ (by cases (c.β id).ownBlock<;>simp),g2.mono (aM.uZ GF),g3⟩,hlen,fun g o hg hS=>?_,l5⟩
  rcases h2 g o hS with h3 | h3
  ·exact hnS g o hg h3
  ·have:=(g1.lt g hg).2;omega
inductive TI where
 | int (k:IntKind)
 | bool
 | str
 | slice (e:TypeId) (n b:Nat) (z:List PV)
 | struct (fs:List (Nat × Nat × Bool)) (z:List PV)
 | arr (e:TypeId) (k n:Nat) (z:List PV)
 | CZ
 | fnT
 | other
def j1:Value→PV
 | .bool b => .bool b
 | .int k n => .int k n
 | .string s => .str s
 | .slice none 0 0 => .nil
 | .func (.func f) ⟨[]⟩ ⟨[]⟩ => .fn f []
 | .pointer none => .lV
 | _ => .undef
def pF:Value→PV
 | .agg cs => .ag (cs.toList.map j1)
 | v=>j1 v
def TI.zero:TI→List PV
 | .int k=>[.int k 0]
 | .bool=>[.bool false]
 | .str=>[.str ⟨#[]⟩]
 | .slice _ _ _ _=>[.nil]
 | .struct _ z=>z
 | .arr _ _ _ z=>z
 | .CZ=>[.lV]
 | .fnT=>[.undef]
 | .other=>[]
def TI.agg:TI→Bool
 | .struct _ _=>true
 | .arr _ _ _ _=>true
 | _=>false
def TI.size(t:TI):Nat:=t.zero.length
def TI.known:TI→Bool
 | .other=>false
 | _=>true
def WV:Option TypeDesc→Bool
 | some (.struct _)=>true
 | some (.array _ _)=>true
 | _=>false
def r8(P:Program)(t:TypeId):Bool:=WV (P.underlying t)
structure mZ(P:Program)(t:TypeId)(n:Nat)(z:List PV):Prop where
 ok:∃i v,P.info? t=some i∧i.zero=some v∧i.size=n∧v.cells.toList.map j1=z∧v.cells.all (·.oneCell')=true
 len:z.length=n
 pos:0<n
structure oR(P:Program)(f:Field)(x:Nat × Nat × Bool):Prop where
 off:f.offset=x.1
 size:∃i,P.info? f.type=some i∧i.size=x.2.1
 pos:0<x.2.1
 agg:r8 P f.type=x.2.2
 und:∃d,P.underlying f.type=some d
def ans:Option TypeDesc→Bool
 | some (.pointer _)=>true
 | _=>false
def fnD:Option TypeDesc→Bool
 | some (.func _ _ _)=>true
 | _=>false
theorem wT{d:Option TypeDesc}(h:ans d=true):∃e,d=some (.pointer e):=by
 unfold ans at h
 split at h
 ·exact⟨_,rfl⟩
 ·cases h
theorem WW{d:Option TypeDesc}(h:fnD d=true):∃a b c,d=some (.func a b c):=by
 unfold fnD at h
 split at h
 ·exact⟨_,_,_,rfl⟩
 ·cases h
def cK(P:Program)(t:TypeId):TI→Prop
 | .int k=>P.underlying t=some (.int k)∧mZ P t 1 [.int k 0]
 | .bool=>P.underlying t=some .bool∧mZ P t 1 [.bool false]
 | .str=>P.underlying t=some .string∧mZ P t 1 [.str ⟨#[]⟩]
 | .slice e n b z=>P.underlying t=some (.slice e)∧mZ P t 1 [.nil]∧mZ P e n z ∧ ∃i,P.info? e=some i∧i.bytes=b
 | .struct fs z=>(∃fields:Array Field,P.underlying t=some (.struct fields)∧bF (oR P) fields.toList fs)∧mZ P t z.length z
 | .arr e k n z=>P.underlying t=some (.array k e)∧mZ P t z.length z ∧ ∃i,P.info? e=some i∧i.size=n
 | .CZ=>ans (P.underlying t)=true∧mZ P t 1 [.lV]
 | .fnT=>fnD (P.underlying t)=true∧mZ P t 1 [.undef]
 | .other=>True
structure Env where
 P:Program
 ty:TypeId→TI
 ok:∀t,cK P t (ty t)
 mixed:P.follows .mixedOrders=true
 writes:FuncId→Bool
 GG:FuncId→Bool
theorem cK.zero{P:Program}{t:TypeId}{ti:TI}(h:cK P t ti)(hk:ti.known=true):mZ P t ti.size ti.zero:=by
 cases ti with
 | other=>simp [TI.known]at hk
 | struct fs z=>exact h.2
 | slice e n b z=>exact h.2.1
 | arr e k n z=>exact h.2.1
 | _=>exact h.2
theorem cK.atz{P:Program}{t:TypeId}{ti:TI}(h:cK P t ti)(hk:ti.known=true):r8 P t=ti.agg:=by
 unfold r8
 cases ti with
 | other=>simp [TI.known]at hk
 | struct fs z=>obtain⟨⟨f,h1,_⟩,_⟩:=h;rw [h1];rfl
 | slice e n b z=>rw [h.1];rfl
 | arr e k n z=>rw [h.1];rfl
 | int k=>rw [h.1];rfl
 | bool=>rw [h.1];rfl
 | str=>rw [h.1];rfl
 | CZ=>obtain⟨e,he⟩:=wT h.1;rw [he];rfl
 | fnT=>obtain⟨a,b,c,he⟩:=WW h.1;rw [he];rfl
theorem cK.und{P:Program}{t:TypeId}{ti:TI}(h:cK P t ti)(hk:ti.known=true):∃d,P.underlying t=some d:=by
 cases ti with
 | other=>simp [TI.known]at hk
 | struct fs z=>obtain⟨⟨f,h1,_⟩,_⟩:=h;exact⟨_,h1⟩
 | slice e n b z=>exact⟨_,h.1⟩
 | arr e k n z=>exact⟨_,h.1⟩
 | int k=>exact⟨_,h.1⟩
 | bool=>exact⟨_,h.1⟩
 | str=>exact⟨_,h.1⟩
 | CZ=>obtain⟨e,he⟩:=wT h.1;exact⟨_,he⟩
 | fnT=>obtain⟨a,b,c,he⟩:=WW h.1;exact⟨_,he⟩
section runs
variable {P:Program} {w:World}
theorem nY{t:TypeId}{d:TypeDesc}(h:P.underlying t=some d):(isAgg t).run P w = .ok (r8 P t) w:=by
 unfold r8
 simp only [isAgg,Sem.run_bind,run_underlying h,Result.andThen_ok,h]
 cases d<;>rfl
theorem dD{t:TypeId}{i:TypeInfo}(h:P.info? t=some i):(Go.sizeOf t).run P w = .ok i.size w:=by simp [Go.sizeOf,typeInfo,h]
end runs
structure PS where
 f:Nat→PV
 rows:Rows
 clock:Nat
def put(f:Nat→PV)(d:Option Tmp)(v:PV):Nat→PV:=
 match d with
 | some d=>fun j=>if j=d then v else f j
 | none=>f
def PS.put(σ:PS)(d:Option Tmp)(v:PV):PS:={ σ with f:=Pm.put σ.f d v }
def aS(f:Nat→PV):Operand→PV
 | .tmp t=>f t
 | .const v=>pF v
 | .func g => .fn g []
 | .global _ => .undef
def fz(rows:Rows):PV→PV
 | .own id ver off len =>
  match rows id with
  | some r=>if r.ver=ver then .sl ((r.els.drop off).take len)else .undef
  | none => .undef
 | .ptr id ver i j =>
  match rows id with
  | some r=>if r.ver=ver then .rd ((r.els.getD i []).drop j)else .undef
  | none => .undef
 | .nil => .sl []
 | .jA l => .sl l
 | p=>p
def pz(rows:Rows):PV→PV
 | .ag l => .ag (l.map (fz rows))
 | p=>fz rows p
def aU:PV→List Nat
 | .own id _ _ _=>[id]
 | .ptr id _ _ _=>[id]
 | _=>[]
def eB:PV→List Nat
 | .ag l=>l.flatMap aU
 | p=>aU p
def aE(P:Program)(f:FuncId)(args:List PV)(r:PV):Prop:=
 (∃fn c,P.funcs[f]? = some fn∧fn.body=some c∧(fn.name == "runtime.NumGoroutine")=false) ∧
 ∀(w:World) (S:eG) (vs:List Value),(∀b o,S b o→b<w.heap.size)→bP S w args vs →
  Calls P f vs.toArray w fun e w'=>∃v,e = .returned v∧Below w.heap.size w w' ∧
   ∃S':eG,(∀b o,S b o→S' b o)∧(∀b o,S' b o→S b o∨(w.heap.size≤b∧b<w'.heap.size))∧dK S' w' r v
def r9(k:IntKind)(a b:Int):Int:=k.wrap (((BitVec.ofInt k.bits a) ||| (BitVec.ofInt k.bits b)).toNat:Int)
def acG(k:IntKind)(a b:Int):Int:=k.wrap (((BitVec.ofInt k.bits a) &&& (BitVec.ofInt k.bits b)).toNat:Int)
def kE:List PV→List Int
 | .int _ n::r=>n::kE r
 | _=>[]
def allI:List PV→Bool
 | []=>true
 | .int .i64 _::r=>allI r
 | _=>false
def iV(n:Int):Value:=.int .i64 n
structure ahD(P:Program)(t:TypeId)(n:Nat):Prop where
 run:∀(w:World) (xs ys:List Int),xs.length=n→ys.length=n→(Op.equal t (.agg (xs.map iV).toArray) (.agg (ys.map iV).toArray)).run P w = .ok (decide (xs=ys)) w
 guard:P.eqGuardType P.depth t=false
def JQ(E:Env)(op:BinOp)(t:TypeId)(x y v:PV):Prop:=
 match x,y with
 | .ag a, .ag b =>
  match op with
  | .eql=>(ahD E.P t a.length∧allI a=true∧allI b=true∧b.length=a.length)∧v = .bool (decide (kE a=kE b))
  | .neq=>(ahD E.P t a.length∧allI a=true∧allI b=true∧b.length=a.length)∧v = .bool (!decide (kE a=kE b))
  | _=>False
 | .int k a, .int k2 b =>
  match op with
  | .add=>k=k2∧v = .int k (k.wrap (a+b))
  | .sub=>k=k2∧v = .int k (k.wrap (a-b))
  | .mul=>k=k2∧v = .int k (k.wrap (a*b))
  | .quo=>k=k2∧b≠0∧v = .int k (k.wrap (a.tdiv b))
  | .rem=>k=k2∧b≠0∧v = .int k (a.tmod b)
  | .shl=>0≤b∧v = .int k (k.wrap (a*2^(min b.toNat k.bits)))
  | .shr=>0≤b∧v = .int k (a.fdiv (2^(min b.toNat k.bits)))
  | .or=>k=k2∧v = .int k (r9 k a b)
  | .and=>k=k2∧v = .int k (acG k a b)
  | .eql=>k=k2∧v = .bool (a==b)
  | .neq=>k=k2∧v = .bool (a != b)
  | .lss=>k=k2∧v = .bool (decide (a<b))
  | .leq=>k=k2∧v = .bool (decide (a≤b))
  | .gtr=>k=k2∧v = .bool (decide (b<a))
  | .geq=>k=k2∧v = .bool (decide (b≤a))
  | _=>False
 | .bool a, .bool b =>
  match op with
  | .eql=>E.ty t = .bool∧v = .bool (a==b)
  | .neq=>E.ty t = .bool∧v = .bool (a != b)
  | _=>False
 | .lV, .lV =>
  match op with
  | .eql=>E.ty t = .CZ∧v = .bool true
  | .neq=>E.ty t = .CZ∧v = .bool false
  | _=>False
 | .rd _, .lV =>
  match op with
  | .eql=>E.ty t = .CZ∧v = .bool false
  | .neq=>E.ty t = .CZ∧v = .bool true
  | _=>False
 | _,_=>False
def u0(E:Env)(t:TypeId)(rows:Rows)(p v:PV):Prop:=
 (E.ty t).known=true ∧
 match p with
 | .rd l=>if (E.ty t).agg=true then(E.ty t).size≤l.length∧v = .ag (l.take (E.ty t).size)else l[0]? = some v
 | .ptr id ver i j=>∃r,rows id=some r∧r.ver=ver ∧ ∃el,r.els[i]? = some el ∧
   (if (E.ty t).agg=true then j+(E.ty t).size≤el.length∧v = .ag ((el.drop j).take (E.ty t).size)else el[j]? = some v)
 | _=>False
def vJ(E:Env)(t:TypeId)(i:Nat)(x v:PV):Prop:=
 match E.ty t with
 | .struct fs _=>∃o n b,fs[i]? = some (o,n,b) ∧
  match x with
  | .ag l=>if b=true then v = .ag ((l.drop o).take n)else l[o]? = some v
  | _=>False
 | _=>False
def gG(E:Env)(t:TypeId)(rows:Rows)(i:Nat)(x v:PV):Prop:=
 match E.ty t with
 | .struct fs _=>∃o n b,fs[i]? = some (o,n,b) ∧
  match x with
  | .rd l=>o≤l.length∧v = .rd (l.drop o)
  | .ptr id ver a j=>(∃r,rows id=some r∧r.ver=ver)∧v = .ptr id ver a (j+o)
  | _=>False
 | _=>False
def gH(E:Env)(t:TypeId)(rows:Rows)(x ix v:PV):Prop:=
 match E.ty t with
 | .slice _ n _ _ =>
  match ix with
  | .int _ k=>0≤k ∧
   match x with
   | .sl l=>∃el,l[k.toNat]? = some el∧(∀e∈l,e.length=n)∧v = .rd el
   | .jA l=>∃el,l[k.toNat]? = some el∧(∀e∈l,e.length=n)∧v = .rd el
   | .own id ver off len=>∃r,rows id=some r∧r.ver=ver∧r.size=n∧k.toNat<len∧v = .ptr id ver (off+k.toNat) 0
   | _=>False
  | _=>False
 | .arr _ m n _ =>
  match ix with
  | .int _ k=>(0≤k∧k.toNat<m) ∧
   match x with
   | .rd l=>k.toNat*n≤l.length∧v = .rd (l.drop (k.toNat*n))
   | .ptr id ver a j=>(∃r,rows id=some r∧r.ver=ver)∧v = .ptr id ver a (j+k.toNat*n)
   | _=>False
  | _=>False
 | _=>False
def wQ(d:Nat):Option PV→Nat→Prop
 | none,n=>n=d
 | some (.int _ k),n=>0≤k∧n=k.toNat
 | some _,_=>False
def SU(l:List (List PV))(a b:Nat)(hi mx:Option PV)(v:PV):Prop:=
 match mx with
 | none=>v = .sl ((l.take b).drop a)
 | some m=>∃c,wQ 0 (some m) c∧b=c∧hi.isSome=true∧v = .jA ((l.take b).drop a)
def pG(E:Env)(t:TypeId)(rows:Rows)(x:PV)(lo hi mx:Option PV)(v:PV):Prop:=
 match E.ty t with
 | .slice _ n _ _ =>
  match x with
  | .nil=>∃a b,wQ 0 lo a∧wQ 0 hi b∧a=0∧b=0∧mx.isNone=true∧v = .nil
  | .sl l=>∃a b,wQ 0 lo a∧wQ l.length hi b∧a≤b∧b≤l.length∧(∀e∈l,e.length=n) ∧
   SU l a b hi mx v
  | .jA l=>∃a b,wQ 0 lo a∧wQ l.length hi b∧a≤b∧b≤l.length∧(∀e∈l,e.length=n) ∧
   SU l a b hi mx v
  | .own id ver off len=>∃r,rows id=some r∧r.ver=ver∧r.size=n ∧ ∃a b,wQ 0 lo a∧wQ len hi b∧a≤b∧b≤len∧mx.isNone=true∧v = .own id ver (off+a) (b-a)
  | _=>False
 | _=>False
def aaf(rows:Rows)(x:PV)(n:Nat):Prop:=
 match x with
 | .nil=>n=0
 | .sl l=>n=l.length
 | .jA l=>n=l.length
 | .own id ver _ len=>(∃r,rows id=some r∧r.ver=ver)∧n=len
 | _=>False
def fI:PV→Option (List PV)
 | .ag l=>some l
 | .bool b=>some [.bool b]
 | .int k n=>some [.int k n]
 | .str s=>some [.str s]
 | .lV=>some [.lV]
 | .nil=>some [.nil]
 | .sl l=>some [.sl l]
 | .jA l=>some [.jA l]
 | .rd l=>some [.rd l]
 | .fn f l=>some [.fn f l]
 | _=>none
def u3(fs:List (Nat × Nat × Bool)):List (Nat × PV)→List PV→Option (List PV)
 | [],z=>some z
 | (i,p)::ps,z =>
  match fs[i]?,fI p with
  | some (o,n,_),some l=>if l.length=n∧o+n≤z.length then u3 fs ps (z.take o++l++z.drop (o+n))else none
  | _,_=>none
def yun(op:UnOp)(x v:PV):Prop:=
 match op,x with
 | .not, .bool b=>v = .bool (!b)
 | .neg, .int k n=>v = .int k (k.wrap (0-n))
 | _,_=>False
def u4(s d:TI)(x v:PV):Prop:=
 match s,d,x with
 | .int _, .int k, .int _ n=>v = .int k (k.wrap n)
 | _,_,_=>False
def SV(i:Nat)(x v:PV):Prop:=
 match x with
 | .dX l=>l[i]? = some v
 | _=>False
def SW(k n:Nat):List (Nat × Nat × Bool):=(List.range k).map fun i=>(i*n,n,false)
def sA(t:TI)(parts:List (Nat × PV))(v:PV):Prop:=
 match t with
 | .struct fs z=>∃l,u3 fs parts z=some l∧v = .ag l
 | .arr _ k n z=>∃l,u3 (SW k n) parts z=some l∧v = .ag l
 | _=>False
def vK(E:Env)(t:TI)(x ix v:PV):Prop:=
 match t,x,ix with
 | .arr e m n _, .ag l, .int _ k=>((E.ty e).known=true∧(E.ty e).agg=false∧n=1∧(0≤k∧k.toNat<m)∧k.toNat<l.length)∧v=l.getD k.toNat .undef
 | .str, .str s, .int _ k=>0≤k ∧ ∃b,s[k.toNat]? = some b∧v = .int .u8 b.toNat
 | _,_,_=>False
def AB(t:TI)(rows:Rows)(x v:PV):Prop:=
 match t with
 | .slice _ _ _ _=>∃n,aaf rows x n∧v = .int .i64 n
 | _=>False
def SX(x y v:PV):Prop:=
 match x,y with
 | .int k a, .int _ b=>v = .int k (if b>a then b else a)
 | _,_=>False
def SY(x y v:PV):Prop:=
 match x,y with
 | .int k a, .int _ b=>v = .int k (if b<a then b else a)
 | _,_=>False
def GH(rows:Rows)(x v:PV):Prop:=
 match x with
 | .rd l=>v = .rd l
 | .ptr id ver i j=>(∃r,rows id=some r∧r.ver=ver)∧v = .ptr id ver i j
 | _=>False
def yv(E:Env)(op:Op)(ρ:Operand→PV)(rows:Rows)(v:PV):Prop:=
 match op with
 | .move x=>v=ρ x
 | .assign x=>v=ρ x
 | .pick c a b=>∃t,ρ c = .bool t∧v=if t=true then ρ a else ρ b
 | .binOp op t x y _=>JQ E op t (ρ x) (ρ y) v
 | .unOp op _ x=>yun op (ρ x) v
 | .convert s d x=>u4 (E.ty s) (E.ty d) (ρ x) v
 | .extract x i=>SV i (ρ x) v
 | .load t p=>u0 E t rows (ρ p) v
 | .field t x i=>vJ E t i (ρ x) v
 | .fieldAddr t x i=>gG E t rows i (ρ x) v
 | .indexAddr t x ix=>gH E t rows (ρ x) (ρ ix) v
 | .slice t x lo hi mx=>pG E t rows (ρ x) (lo.map ρ) (hi.map ρ) (mx.map ρ) v
 | .build t parts=>sA (E.ty t) (parts.toList.map fun x=>(x.1,ρ x.2)) v
 | .index t x ix=>vK E (E.ty t) (ρ x) (ρ ix) v
 | .makeFunc (.func f) ⟨[]⟩ caps=>(caps.toList.map fun x=>ρ x).all dI=true∧v = .fn f (caps.toList.map fun x=>ρ x)
 | .call { callee:=.builtin .len,args:=⟨[x]⟩,argTypes:=⟨[t]⟩ }=>AB (E.ty t) rows (ρ x) v
 | .call { callee:=.builtin .max,args:=⟨[x,y]⟩,argTypes:=_ }=>SX (ρ x) (ρ y) v
 | .call { callee:=.builtin .min,args:=⟨[x,y]⟩,argTypes:=_ }=>SY (ρ x) (ρ y) v
 | .nilCheck x=>GH rows (ρ x) v
 | _=>False
theorem l6{c:Cx}:∀v:Value,aM c (j1 v) v:=by
 intro v
 unfold j1
 split<;>first
  | (simp [aM,dK];done)
  | (simp only [aM,dK];exact⟨[],rfl,by simp [bP]⟩)
theorem SZ{c:Cx}(v:Value):aI c (pF v) v:=by
 unfold pF
 split
 ·rename_i cs
  simp only [aI]
  refine⟨cs.toList,by simp,bF.cZ (by simp) fun k a b ha hb=>?_⟩
  simp at ha
  obtain⟨u,hu,rfl⟩:=ha
  have:cs.toList[k]? = some u:=by simpa using hu
  rw [this]at hb;cases hb
  exact l6 _
 ·rename_i h
  have h1:=l6 (c:=c) v
  revert h1
  unfold j1
  split<;>simp [aI]
theorem nJ{c:Cx}{f:Nat→PV}{a:Act}(h:∀s,aI c (f s) (a.tmps.getD s undef))(x:Operand):aI c (aS f x) (a.eval x):=by
 cases x with
 | tmp t=>exact h t
 | const v=>exact SZ v
 | global g=>simp [aS,aI,aM]
 | func g=>simp only [aS,aI,aM,dK,Act.eval];exact⟨[],rfl,by simp [bP]⟩
section
variable {E:Env} {c:Cx}
theorem cR{k:IntKind}{n:Int}{v:Value}:aI c (.int k n) v↔v = .int k n:=by simp [aI,aM,dK]
theorem dO{b:Bool}{v:Value}:aI c (.bool b) v↔v = .bool b:=by simp [aI,aM,dK]
theorem run_equalIn_bool{P:Program}{w:World}{t:TypeId}(h:P.underlying t=some .bool)(d:Nat)(a b:Bool) :
  (Op.equalIn (d+1) t (.bool a) (.bool b)).run P w = .ok (a==b) w:=by simp [Op.equalIn,run_underlying h]
theorem run_equal_bool{P:Program}{w:World}{t:TypeId}(h:P.underlying t=some .bool)(a b:Bool) :
  (Op.equal t (.bool a) (.bool b)).run P w = .ok (a==b) w:=run_equalIn_bool h 9999 a b
theorem run_eql_bool{P:Program}{w:World}{t:TypeId}(h:P.underlying t=some .bool)(a b:Bool) :
  (binOp .eql t (.bool a) (.bool b)).run P w = .ok (.bool (a==b)) w:=by
 show(do pure (Value.bool (←Op.equal t (.bool a) (.bool b))):Sem Value).run P w=_
 simp [run_equal_bool h]
theorem run_neq_bool{P:Program}{w:World}{t:TypeId}(h:P.underlying t=some .bool)(a b:Bool) :
  (binOp .neq t (.bool a) (.bool b)).run P w = .ok (.bool (a != b)) w:=by
 show(do pure (Value.bool (!(←Op.equal t (.bool a) (.bool b)))):Sem Value).run P w=_
 simp [run_equal_bool h];cases a<;>cases b<;>rfl
theorem BP{P:Program}{w:World}{t e:TypeId}(h:P.underlying t=some (.pointer e))(d:Nat):(Op.equalIn (d+1) t (.pointer none) (.pointer none)).run P w = .ok true w:=by simp [Op.equalIn,run_underlying h]
theorem yZ{P:Program}{w:World}{t e:TypeId}{a:Addr}(h:P.underlying t=some (.pointer e))(d:Nat):(Op.equalIn (d+1) t (.pointer (some a)) (.pointer none)).run P w = .ok false w:=by simp [Op.equalIn,run_underlying h]
theorem u5{P:Program}{w:World}{t e:TypeId}(h:P.underlying t=some (.pointer e)):(Op.equal t (.pointer none) (.pointer none)).run P w = .ok true w:=by
 exact BP h 9999
theorem sB{P:Program}{w:World}{t e:TypeId}{a:Addr}(h:P.underlying t=some (.pointer e)):(Op.equal t (.pointer (some a)) (.pointer none)).run P w = .ok false w:=by
 exact yZ h 9999
theorem AD{P:Program}{w:World}{t:TypeId}{x:Option Addr}{b:Bool}(h:(Op.equal t (.pointer x) (.pointer none)).run P w = .ok b w):(binOp .eql t (.pointer x) (.pointer none)).run P w = .ok (.bool b) w:=by
 show(do pure (Value.bool (←Op.equal t (.pointer x) (.pointer none))):Sem Value).run P w=_
 simp [h]
theorem AE{P:Program}{w:World}{t:TypeId}{x:Option Addr}{b:Bool}(h:(Op.equal t (.pointer x) (.pointer none)).run P w = .ok b w):(binOp .neq t (.pointer x) (.pointer none)).run P w = .ok (.bool (!b)) w:=by
 show(do pure (Value.bool (!(←Op.equal t (.pointer x) (.pointer none)))):Sem Value).run P w=_
 simp [h]
theorem NP{v:Value}:aI c .lV v↔v = .pointer none:=by simp [aI,aM,dK]
theorem C0:∀ {l:List PV} {vs:List Value},allI l=true→bF (aM c) l vs→vs=(kE l).map iV∧(kE l).length=l.length
 | [],[],_,_=>⟨rfl,rfl⟩
 | [],_::_,_,h=>h.elim
 | p::l,[],_,h=>h.elim
 | p::l,v::vs,ha,h=>by
  unfold allI at ha
  split at ha
  ·rename_i heq;cases heq
  ·rename_i n r heq
   simp only [List.cons.injEq]at heq
   obtain⟨rfl,rfl⟩:=heq
   obtain⟨h1,h2⟩:=C0 ha h.2
   have hv:v = .int .i64 n:=by simpa [aM,dK]using h.1
   exact⟨by rw [h1,hv];rfl,by simp [kE,h2]⟩
  ·cases ha
theorem WX{op:BinOp}{t:TypeId}{ox oy:Operand}{a b:List PV}{vx vy:Value}(hx:aI c (.ag a) vx)(hy:aI c (.ag b) vy)(h:ahD E.P t a.length∧allI a=true∧allI b=true∧b.length=a.length) :
  (do eqGuard .eql t ox oy vx vy;binOp .eql t vx vy:Sem Value).run E.P c.w = .ok (.bool (decide (kE a=kE b))) c.w∧(do eqGuard .neq t ox oy vx vy;binOp .neq t vx vy:Sem Value).run E.P c.w = .ok (.bool (!decide (kE a=kE b))) c.w:=by
 obtain⟨h1,h2,h3,h4⟩:=h
 obtain⟨xs,rfl,g1⟩:=hx
 obtain⟨ys,rfl,g2⟩:=hy
 obtain⟨rfl,q1⟩:=C0 h2 g1
 obtain⟨rfl,q2⟩:=C0 h3 g2
 have hr:=h1.run c.w (kE a) (kE b) q1 (by rw [q2,h4])
 have hg:∀op,(eqGuard op t ox oy (.agg ((kE a).map iV).toArray) (.agg ((kE b).map iV).toArray)).run E.P c.w = .ok () c.w:=by
  intro op
  unfold eqGuard
  cases op<;>simp [h1.guard]
 constructor
 ·rw [Sem.run_bind,hg,Result.andThen_ok]
  show(do pure (Value.bool (←Op.equal t _ _)):Sem Value).run E.P c.w=_
  simp [hr]
 ·rw [Sem.run_bind,hg,Result.andThen_ok]
  show(do pure (Value.bool (!(←Op.equal t _ _))):Sem Value).run E.P c.w=_
  simp [hr]
theorem acH{op:BinOp}{t:TypeId}{ox oy:Operand}{x y v:PV}{vx vy:Value}(hx:aI c x vx)(hy:aI c y vy)(h:JQ E op t x y v) :
  ∃v',(do eqGuard op t ox oy vx vy;binOp op t vx vy:Sem Value).run E.P c.w = .ok v' c.w∧aI c v v':=by
 unfold JQ at h
 split at h
 ·cases op<;>simp only at h
  case eql=>obtain⟨h1,rfl⟩:=h;exact⟨_,(WX (op:=.eql) hx hy h1).1,dO.2 rfl⟩
  case neq=>obtain⟨h1,rfl⟩:=h;exact⟨_,(WX (op:=.eql) hx hy h1).2,dO.2 rfl⟩
  all_goals exact False.elim h
 ·rename_i k a k2 b
  rw [cR]at hx hy
  subst hx hy
  cases op<;>simp only at h
  case shl=>obtain⟨h1,rfl⟩:=h;exact⟨_,by simp [eqGuard,binOp,Op.shift,show ¬b<0 by omega],cR.2 rfl⟩
  case shr=>obtain⟨h1,rfl⟩:=h;exact⟨_,by simp [eqGuard,binOp,Op.shift,show ¬b<0 by omega],cR.2 rfl⟩
  case quo=>obtain⟨rfl,h1,rfl⟩:=h;exact⟨_,by simp [eqGuard,binOp,Op.intDiv,h1],cR.2 rfl⟩
  case rem=>obtain⟨rfl,h1,rfl⟩:=h;exact⟨_,by simp [eqGuard,binOp,Op.intDiv,h1],cR.2 rfl⟩
  case add=>obtain⟨rfl,rfl⟩:=h;exact⟨_,by simp [eqGuard,binOp,Op.intArith],cR.2 rfl⟩
  case sub=>obtain⟨rfl,rfl⟩:=h;exact⟨_,by simp [eqGuard,binOp,Op.intArith],cR.2 rfl⟩
  case mul=>obtain⟨rfl,rfl⟩:=h;exact⟨_,by simp [eqGuard,binOp,Op.intArith],cR.2 rfl⟩
  case or=>obtain⟨rfl,rfl⟩:=h;exact⟨_,by simp [eqGuard,binOp,Op.intBits,r9],cR.2 rfl⟩
  case and=>obtain⟨rfl,rfl⟩:=h;exact⟨_,by simp [eqGuard,binOp,Op.intBits,acG],cR.2 rfl⟩
  case eql=>obtain⟨rfl,rfl⟩:=h;exact⟨_,by simp [eqGuard,binOp,Op.intCmp],dO.2 rfl⟩
  case neq=>obtain⟨rfl,rfl⟩:=h;exact⟨_,by simp [eqGuard,binOp,Op.intCmp],dO.2 rfl⟩
  case lss=>obtain⟨rfl,rfl⟩:=h;exact⟨_,by simp [eqGuard,binOp,Op.intCmp],dO.2 rfl⟩
  case leq=>obtain⟨rfl,rfl⟩:=h;exact⟨_,by simp [eqGuard,binOp,Op.intCmp],dO.2 rfl⟩
  case gtr=>obtain⟨rfl,rfl⟩:=h;exact⟨_,by simp [eqGuard,binOp,Op.intCmp],dO.2 rfl⟩
  case geq=>obtain⟨rfl,rfl⟩:=h;exact⟨_,by simp [eqGuard,binOp,Op.intCmp],dO.2 rfl⟩
  all_goals exact False.elim h
 ·rename_i a b
  rw [dO]at hx hy
  subst hx hy
  have hb:E.ty t = .bool→E.P.underlying t=some .bool:=fun he=>by have:=E.ok t;rw [he]at this;exact this.1
  cases op<;>simp only at h
  case eql=>obtain⟨h1,rfl⟩:=h;exact⟨_,by simp [eqGuard,run_eql_bool (hb h1)],dO.2 rfl⟩
  case neq=>obtain⟨h1,rfl⟩:=h;exact⟨_,by simp [eqGuard,run_neq_bool (hb h1)],dO.2 rfl⟩
  all_goals exact False.elim h
 ·rw [NP]at hx hy
  subst hx hy
  have hb:E.ty t = .CZ → ∃e,E.P.underlying t=some (.pointer e):=fun he=>by have:=E.ok t;rw [he]at this;exact wT this.1
  cases op<;>simp only at h
  case eql=>obtain⟨h1,rfl⟩:=h;obtain⟨e,he⟩:=hb h1;exact⟨_,by simp [eqGuard,AD (u5 he)],dO.2 rfl⟩
  case neq=>obtain⟨h1,rfl⟩:=h;obtain⟨e,he⟩:=hb h1;exact⟨_,by simp [eqGuard,AE (u5 he)],dO.2 rfl⟩
  all_goals exact False.elim h
 ·rw [NP]at hy
  simp only [aI,aM,dK]at hx
  obtain⟨b,o,rfl,_⟩:=hx
  subst hy
  have hb:E.ty t = .CZ → ∃e,E.P.underlying t=some (.pointer e):=fun he=>by have:=E.ok t;rw [he]at this;exact wT this.1
  cases op<;>simp only at h
  case eql=>obtain⟨h1,rfl⟩:=h;obtain⟨e,he⟩:=hb h1;exact⟨_,by simp [eqGuard,AD (sB he)],dO.2 rfl⟩
  case neq=>obtain⟨h1,rfl⟩:=h;obtain⟨e,he⟩:=hb h1;exact⟨_,by simp [eqGuard,AE (sB he)],dO.2 rfl⟩
  all_goals exact False.elim h
 ·exact False.elim h
theorem jB{S:eG}{w:World}:∀ {l:List PV} {b o:Nat},dN S w b o l → ∀ {k:Nat} {p:PV},l[k]? = some p → ∃v,w.cell? ⟨b,o+k,none⟩=some v∧S b (o+k)∧v.oneCell'=true∧dK S w p v
 | [],_,_,_,_,_,h=>by simp at h
 | q::l,b,o,hr,0,p,h=>by simp at h;subst h;exact hr.1
 | q::l,b,o,hr,k+1,p,h=>by
  have:=jB hr.2 (k:=k) (by simpa using h)
  rw [show o+1+k=o+(k+1)by omega]at this;exact this
theorem kF{S:eG}{w:World}:∀ {l:List PV} {b o:Nat},(∀k p,l[k]? = some p → ∃v,w.cell? ⟨b,o+k,none⟩=some v∧S b (o+k)∧v.oneCell'=true∧dK S w p v)→dN S w b o l
 | [],_,_,_=>trivial
 | q::l,b,o,h=>⟨by simpa using h 0 q (by simp),kF fun k p hp=>by
   have:=h (k+1) p (by simpa using hp)
   rw [show o+(k+1)=o+1+k by omega]at this;exact this⟩
theorem u6{S:eG}{w:World}{l:List PV}{b o:Nat}(h:dN S w b o l)(d:Nat):dN S w b (o+d) (l.drop d):=
 kF fun k p hp=>by
  rw [List.getElem?_drop]at hp
  have:=jB h hp
  rw [show o+(d+k)=o+d+k by omega]at this;exact this
theorem jP(b o k:Nat):(⟨b,o,none⟩:Addr).add k=⟨b,o+k,none⟩:=by unfold Addr.add;split<;>simp_all
theorem j2{S:eG}{w:World}{n:Nat}:∀ {l:List (List PV)} {b o:Nat},gF S w b o l→(∀e∈l,e.length=n) → ∀ {k:Nat} {e:List PV},l[k]? = some e→dN S w b (o+k*n) e
 | [],_,_,_,_,_,_,h=>by simp at h
 | q::l,b,o,hr,_,0,p,h=>by simp at h;subst h;simpa using hr.1
 | q::l,b,o,hr,hn,k+1,p,h=>by
  have:=j2 hr.2 (fun e he=>hn e (by simp [he])) (k:=k) (by simpa using h)
  rw [hn q (by simp),show o+n+k*n=o+(k+1)*n by rw [Nat.add_mul];omega]at this;exact this
theorem pQ{S:eG}{w:World}{n:Nat}:∀ {l:List (List PV)} {b o:Nat},(∀e∈l,e.length=n)→(∀k e,l[k]? = some e→dN S w b (o+k*n) e)→gF S w b o l
 | [],_,_,_,_=>trivial
 | q::l,b,o,hn,h=>⟨by simpa using h 0 q (by simp),pQ (n:=n) (fun e he=>hn e (by simp [he])) fun k e hk=>by
   have:=h (k+1) e (by simpa using hk)
   rw [hn q (by simp),show o+n+k*n=o+(k+1)*n by rw [Nat.add_mul];omega];exact this⟩
theorem C3{P:Program}{w:World}{t:TypeId}{ti:TI}(ht:cK P t ti)(hk:ti.known=true){b o:Nat}{vs:List Value}(hl:vs.length=ti.size)
  (h:∀k v,vs[k]? = some v→w.cell? ⟨b,o+k,none⟩=some v) :
  (Instr.loadAt t (.pointer (some ⟨b,o,none⟩))).run P w = .ok (if ti.agg=true then .agg vs.toArray else vs.getD 0 undef) w:=by
 obtain⟨d,hd⟩:=ht.und hk
 obtain⟨i,z,hi,_,hs,_,_⟩:=(ht.zero hk).ok
 have pP:i.size=vs.length:=by rw [hs,hl]
 simp only [Instr.loadAt,Instr.sureAddr,Sem.run_bind,Sem.run_pure,Result.andThen_ok,loadVar,nY hd,ht.atz hk]
 by_cases ha:ti.agg=true
 ·simp only [ha,if_true,Sem.run_bind,dD hi,Result.andThen_ok,pP]
  rw [run_loadCells_list (P:=P) w ⟨b,o,none⟩ vs (fun j v hj=>by rw [jP];exact h j v hj)]
  simp
 ·have HE:ti.agg=false:=by simpa using ha
  simp only [HE]
  have h1:vs.length=1:=by
   rw [hl];cases ti<;>simp_all [TI.agg,TI.size,TI.zero,TI.known]
  match vs,h1 with
  | [x],_ =>
   have:=h 0 x (by simp)
   simp [load,Sem.run,show w.cell? ⟨b,o,none⟩=some x by simpa using this]
end
theorem kG{α:Type}{n:Nat}:∀ {l:List (List α)},(∀e∈l,e.length=n) → ∀ {i:Nat} {e:List α},l[i]? = some e → ∀ {j:Nat} {p:α},e[j]? = some p→l.flatten[i*n+j]? = some p
 | [],_,_,_,h,_,_,_=>by simp at h
 | q::l,hn,0,e,h,j,p,hp=>by
  simp at h;subst h
  have hj:j<q.length:=(List.getElem?_eq_some_iff.1 hp).1
  simp [List.getElem?_append_left hj,hp]
 | q::l,hn,i+1,e,h,j,p,hp=>by
  have:=kG (l:=l) (n:=n) (fun e he=>hn e (by simp [he])) (i:=i) (by simpa using h) hp
  have hq:q.length=n:=hn q (by simp)
  rw [List.flatten_cons,List.getElem?_append_right (by rw [hq,Nat.add_mul];omega),hq,show(i+1)*n+j-n=i*n+j by rw [Nat.add_mul];omega]
  exact this
section
variable {E:Env} {c:Cx} {w0:World} {S0:eG}
theorem wU(hI:Inv w0 S0 c){id:Nat}{r:Row}(hr:c.rows id=some r){g n cap:Nat}(hβ:c.β id = .slice (some ⟨g,0,none⟩) n cap){i j:Nat}{el:List PV}{p:PV}(hi:r.els[i]? = some el)(hj:el[j]? = some p) :
  ∃v,c.w.cell? ⟨g,i*r.size+j,none⟩=some v∧v.oneCell'=true∧aM c p v:=by
 obtain⟨⟨xs,h1,h2,h3⟩,hlen,_,l5⟩:=hI.row id r hr
 have hf:=kG hlen hi hj
 obtain⟨v,hv,fU⟩:=h2.get hf
 have hn:n=r.els.length:=by
  rw [hβ]at h1
  rcases h1.2 with ⟨h,_⟩ | ⟨g',j3,cur,h,_⟩
  ·simp at h
  ·simp at h;exact h.2.1
 rw [hβ]at h1
 subst hn
 have dC:i*r.size+j<r.els.length*r.size:=by
  have:=(List.getElem?_eq_some_iff.1 hv).1
  rw [h1.1]at this;exact this
 exact⟨v,by rw [h1.cellAt _ dC];exact hv,h3 v (List.mem_of_getElem? hv),fU⟩
theorem wV{p:PV}{v:Value}(h:aM c p v):aI c p v:=by
 cases p with
 | ag l=>exact aI.j0 (p:=.ag l) (by simpa only [aM]using h)
 | _=>simpa only [aI]using h
theorem HF{t:TypeId}{p v:PV}{vp:Value}(hI:Inv w0 S0 c)(hp:aI c p vp)(h:u0 E t c.rows p v) :
  ∃v',(Instr.loadAt t vp).run E.P c.w = .ok v' c.w∧aI c v v':=by
 obtain⟨hk,h⟩:=h
 have key:∀(b o:Nat) (l:List PV),(∀k q,l[k]? = some q → ∃u,c.w.cell? ⟨b,o+k,none⟩=some u∧u.oneCell'=true∧aM c q u) →
   (if (E.ty t).agg=true then(E.ty t).size≤l.length∧v = .ag (l.take (E.ty t).size)else l[0]? = some v) →
   ∃v',(Instr.loadAt t (.pointer (some ⟨b,o,none⟩))).run E.P c.w = .ok v' c.w∧aI c v v':=by
  intro b o l hl hv
  by_cases ha:(E.ty t).agg=true
  ·rw [if_pos ha]at hv
   obtain⟨hn,rfl⟩:=hv
   have:∃vs:List Value,vs.length=(E.ty t).size ∧ ∀k,k<(E.ty t).size → ∀q,l[k]? = some q → ∃u,vs[k]? = some u∧c.w.cell? ⟨b,o+k,none⟩=some u∧aM c q u:=by
    refine⟨(List.range (E.ty t).size).map fun k=>(c.w.cell? ⟨b,o+k,none⟩).getD undef,by simp,fun k hk q hq=>?_⟩
    obtain⟨u,hu,_,hr⟩:=hl k q hq
    exact⟨u,by simp [hk,hu],hu,hr⟩
   obtain⟨vs,NQ,C4⟩:=this
   have acI:∀k u,vs[k]? = some u→c.w.cell? ⟨b,o+k,none⟩=some u:=by
    intro k u hu
    have yS:k<(E.ty t).size:=by rw [←NQ];exact(List.getElem?_eq_some_iff.1 hu).1
    obtain⟨u',h1,h2,_⟩:=C4 k yS l[k] (by simp [List.getElem?_eq_getElem (show k<l.length by omega)])
    rw [hu]at h1;cases h1;exact h2
   refine⟨_,C3 (E.ok t) hk NQ acI,?_⟩
   rw [if_pos ha]
   refine⟨vs,rfl,bF.cZ (by simp [NQ];omega) fun k q u hq hu=>?_⟩
   rw [List.getElem?_take]at hq
   split at hq
   ·rename_i yS
    obtain⟨u',h1,_,h3⟩:=C4 k yS q hq
    rw [hu]at h1;cases h1;exact h3
   ·cases hq
  ·rw [if_neg ha]at hv
   obtain⟨u,hu,ho,hr⟩:=hl 0 v hv
   have h1:(E.ty t).size=1:=by
    cases hE:E.ty t<;>simp_all [TI.agg,TI.size,TI.zero,TI.known]
   refine⟨_,C3 (vs:=[u]) (E.ok t) hk (by simp [h1]) (fun k x hx=>?_),?_⟩
   ·match k with
    | 0=>simp at hx;subst hx;exact hu
    | k+1=>simp at hx
   ·rw [if_neg ha];exact wV hr
 cases p with
 | rd l =>
  simp only [aI,aM,dK]at hp
  obtain⟨b,o,rfl,hc⟩:=hp
  exact key b o l (fun k q hq=>let ⟨u,h1,_,h3,h4⟩:=jB hc hq;⟨u,h1,h3,aM.j0 h4⟩) h
 | ptr id ver i j =>
  simp only at h
  obtain⟨r,hr,j4,el,nS,hh⟩:=h
  simp only [aI,aM]at hp
  obtain⟨g,n,cap,hβ,rfl⟩:=hp.2 r hr j4
  refine key g (i*r.size+j) (el.drop j) (fun k q hq=>?_) ?_
  ·rw [List.getElem?_drop]at hq
   have:=wU hI hr hβ nS hq
   rw [show i*r.size+(j+k)=i*r.size+j+k by omega]at this;exact this
  ·split at hh
   ·rename_i ha;rw [if_pos ha];exact⟨by rw [List.length_drop];omega,hh.2⟩
   ·rename_i ha;rw [if_neg ha];simpa using hh
 | _=>exact False.elim h
theorem S3{t:TypeId}{i:Nat}{x v:PV}{vx:Value}(hx:aI c x vx)(h:vJ E t i x v) :
  ∃v',(Instr.field t vx i).run E.P c.w = .ok v' c.w∧aI c v v':=by
 unfold vJ at h
 split at h
 ·rename_i fs z hE
  obtain⟨o,n,b,hf,h⟩:=h
  split at h
  ·rename_i l
   have ht:=E.ok t
   rw [hE]at ht
   obtain⟨⟨fields,hu,ha⟩,_⟩:=ht
   obtain⟨vs,rfl,C4⟩:=hx
   obtain⟨fd,hfd,fT⟩:∃fd,fields[i]? = some fd∧oR E.P fd (o,n,b):=by
    have hlen:=ha.length
    have hi:i<fields.toList.length:=by rw [hlen];exact(List.getElem?_eq_some_iff.1 hf).1
    obtain⟨y,hy,hyy⟩:=ha.get (k:=i) (a:=fields.toList[i]) (by simp [List.getElem?_eq_getElem hi])
    rw [hf]at hy;cases hy
    exact⟨_,by simp,hyy⟩
   obtain⟨inf,hi1,hi2⟩:=fT.size
   obtain⟨d,hd⟩:=fT.und
   have acJ:fd.offset=o:=fT.off
   simp only [Instr.field,Sem.run_bind,run_underlying hu,Result.andThen_ok,hfd,asAgg,Sem.run_pure,part,nY hd,fT.agg]
   by_cases hb:b=true
   ·subst hb
    simp only [if_true]at h
    subst h
    simp only [if_true,Sem.run_bind,dD hi1,Result.andThen_ok,Sem.run_pure,acJ,hi2]
    refine⟨_,rfl,(vs.drop o).take n,?_,(C4.drop o).take n⟩
    congr 1
    apply Array.ext'
    simp [List.extract_eq_take_drop]
   ·have kY:b=false:=by simpa using hb
    subst kY
    simp only [Bool.false_eq_true,if_false]at h ⊢
    obtain⟨u,hu',hr⟩:=C4.get h
    refine⟨u,?_,wV hr⟩
    rw [acJ]
    simp [hu']
  ·exact False.elim h
 ·exact False.elim h
theorem JR{t:TypeId}{fs:List (Nat × Nat × Bool)}{z:List PV}{i o n:Nat}{b:Bool}(hE:E.ty t = .struct fs z)(hf:fs[i]? = some (o,n,b)) :
  ∃(fields:Array Field) (fd:Field),E.P.underlying t=some (.struct fields)∧fields[i]? = some fd∧oR E.P fd (o,n,b):=by
 have ht:=E.ok t
 rw [hE]at ht
 obtain⟨⟨fields,hu,ha⟩,_⟩:=ht
 have hlen:=ha.length
 have hi:i<fields.toList.length:=by rw [hlen];exact(List.getElem?_eq_some_iff.1 hf).1
 obtain⟨y,hy,hyy⟩:=ha.get (k:=i) (a:=fields.toList[i]) (by simp [List.getElem?_eq_getElem hi])
 rw [hf]at hy;cases hy
 exact⟨fields,_,hu,by simp,hyy⟩
theorem AF{t:TypeId}{fs:List (Nat × Nat × Bool)}{z:List PV}{i o n:Nat}{b:Bool}(hE:E.ty t = .struct fs z)(hf:fs[i]? = some (o,n,b))(g off:Nat) :
  (Instr.fieldAt t (.pointer (some ⟨g,off,none⟩)) i).run E.P c.w = .ok (.pointer (some ⟨g,off+o,none⟩)) c.w:=by
 obtain⟨fields,fd,hu,hfd,fT⟩:=JR hE hf
 obtain⟨inf,hi1,hi2⟩:=fT.size
 have l5:0<n:=fT.pos
 have azX:inf.size=n:=hi2
 have acJ:fd.offset=o:=fT.off
 simp only [Instr.fieldAt,Sem.run_bind,run_underlying hu,Result.andThen_ok,hfd,Instr.sureAddr,Sem.run_pure,fieldPlace,dD hi1,azX]
 rw [if_neg (by omega)]
 simp [jP,acJ]
theorem C5{t:TypeId}{i:Nat}{x v:PV}{vx:Value}(hx:aI c x vx)(h:gG E t c.rows i x v) :
  ∃v',(Instr.fieldAt t vx i).run E.P c.w = .ok v' c.w∧aI c v v':=by
 unfold gG at h
 split at h
 ·rename_i fs z hE
  obtain⟨o,n,b,hf,h⟩:=h
  split at h
  ·obtain⟨_,rfl⟩:=h
   simp only [aI,aM,dK]at hx
   obtain⟨g,off,rfl,hc⟩:=hx
   exact⟨_,AF hE hf g off,by simp only [aI,aM,dK];exact⟨g,off+o,rfl,u6 hc o⟩⟩
  ·obtain⟨⟨r,hr,j4⟩,rfl⟩:=h
   simp only [aI,aM]at hx ⊢
   obtain⟨g,m,cap,hβ,rfl⟩:=hx.2 r hr j4
   refine⟨_,AF hE hf g _,hx.1,fun r' kZ _=>?_⟩
   rw [hr]at kZ;cases kZ
   exact⟨g,m,cap,hβ,by rw [Nat.add_assoc]⟩
  ·exact False.elim h
 ·exact False.elim h
theorem gI{t e:TypeId}{n b:Nat}{z:List PV}(hE:E.ty t = .slice e n b z) :
  E.P.underlying t=some (.slice e)∧0<n∧z.length=n ∧ ∃i zv,E.P.info? e=some i∧i.zero=some zv∧i.size=n∧i.bytes=b∧zv.cells.toList.map j1=z∧zv.cells.all (·.oneCell')=true:=by
 have ht:=E.ok t
 rw [hE]at ht
 obtain⟨h1,_,h3,i,h4,h5⟩:=ht
 obtain⟨i',v,g1,g2,g3,g4,g5⟩:=h3.ok
 rw [h4]at g1;cases g1
 exact⟨h1,h3.pos,h3.len,i,v,h4,g2,g3,h5,g4,g5⟩
theorem oS{t e:TypeId}{n b:Nat}{z:List PV}(hE:E.ty t = .slice e n b z){g o len cap:Nat}{kk:IntKind}{k:Int}(h0:0≤k)(h1:k.toNat<len) :
  (Instr.indexAt t (.slice (some ⟨g,o,none⟩) len cap) (.int kk k)).run E.P c.w = .ok (.pointer (some ⟨g,o+k.toNat*n,none⟩)) c.w:=by
 obtain⟨hu,hn,_,i,zv,hi,_,hs,_,_,_⟩:=gI hE
 have h2:0≤k∧k<(len:Int):=⟨h0,by omega⟩
 simp [Instr.indexAt,run_underlying hu,asIntOf,h2,dD hi,hs,jP]
theorem HG{t e:TypeId}{m n:Nat}{z:List PV}(hE:E.ty t = .arr e m n z){g o:Nat}{kk:IntKind}{k:Int}(h0:0≤k)(h1:k.toNat<m) :
  (Instr.indexAt t (.pointer (some ⟨g,o,none⟩)) (.int kk k)).run E.P c.w = .ok (.pointer (some ⟨g,o+k.toNat*n,none⟩)) c.w:=by
 have ht:=E.ok t
 rw [hE]at ht
 obtain⟨hu,_,i,hi,hs⟩:=ht
 have h2:0≤k∧k<(m:Int):=⟨h0,by omega⟩
 simp [Instr.indexAt,run_underlying hu,asIntOf,h2,dD hi,hs,jP,Instr.sureAddr]
theorem sC(hI:Inv w0 S0 c){id:Nat}{r:Row}(hr:c.rows id=some r)(m7:0<r.els.length):∃g cap,c.β id = .slice (some ⟨g,0,none⟩) r.els.length cap:=by
 obtain⟨⟨xs,h1,_,_⟩,_⟩:=hI.row id r hr
 rcases h1.2 with ⟨_,h⟩ | ⟨g',j3,cur,h,_⟩
 ·omega
 ·exact⟨g',j3,h⟩
theorem C6{t:TypeId}{x ix v:PV}{vx vi:Value}(hI:Inv w0 S0 c)(hx:aI c x vx)(hi:aI c ix vi)(h:gH E t c.rows x ix v) :
  ∃v',(Instr.indexAt t vx vi).run E.P c.w = .ok v' c.w∧aI c v v':=by
 unfold gH at h
 split at h
 ·rename_i e n b z hE
  split at h
  ·rename_i kk k
   rw [cR]at hi
   subst hi
   obtain⟨h0,h⟩:=h
   split at h
   ·obtain⟨el,nS,hn,rfl⟩:=h
    simp only [aI,aM,dK]at hx ⊢
    obtain⟨a,cap,rfl,_,_,hh⟩:=hx
    have dC:=(List.getElem?_eq_some_iff.1 nS).1
    rcases hh with rfl | ⟨g,o,rfl,hh⟩
    ·simp at nS
    ·exact⟨_,oS hE h0 dC,g,_,rfl,j2 hh hn nS⟩
   ·obtain⟨el,nS,hn,rfl⟩:=h
    simp only [aI,aM,dK]at hx ⊢
    obtain⟨a,rfl,_,hh⟩:=hx
    have dC:=(List.getElem?_eq_some_iff.1 nS).1
    rcases hh with rfl | ⟨g,o,rfl,hh⟩
    ·simp at nS
    ·exact⟨_,oS hE h0 dC,g,_,rfl,j2 hh hn nS⟩
   ·rename_i id ver off len
    obtain⟨r,hr,j4,pP,dC,rfl⟩:=h
    simp only [aI,aM]at hx ⊢
    obtain⟨acK,hx⟩:=hx
    obtain⟨hle,hx⟩:=hx r hr j4
    rcases hx with ⟨rfl,a,m,cap,hβ,rfl⟩ | ⟨l5,g,m,cap,a,hβ,hoc,rfl,ha⟩
    ·obtain⟨g,j3,sE⟩:=sC hI hr (by omega)
     rw [hβ]at sE
     simp only [Value.slice.injEq]at sE
     obtain⟨rfl,rfl,rfl⟩:=sE
     refine⟨_,oS hE h0 dC,acK,fun r' kZ _=>?_⟩
     rw [hr]at kZ;cases kZ
     exact⟨g,_,_,hβ,by rw [←pP];simp⟩
    ·rcases ha with ha | rfl
     ·omega
     ·refine⟨_,oS hE h0 dC,acK,fun r' kZ _=>?_⟩
      rw [hr]at kZ;cases kZ
      exact⟨g,m,cap,hβ,by rw [←pP,Nat.add_mul,Nat.add_zero]⟩
   ·exact False.elim h
  ·exact False.elim h
 ·rename_i e m n z hE
  split at h
  ·rename_i kk k
   rw [cR]at hi
   subst hi
   obtain⟨⟨h0,h1⟩,h⟩:=h
   split at h
   ·obtain⟨_,rfl⟩:=h
    simp only [aI,aM,dK]at hx
    obtain⟨g,off,rfl,hc⟩:=hx
    exact⟨_,HG hE h0 h1,by simp only [aI,aM,dK];exact⟨g,off+k.toNat*n,rfl,u6 hc _⟩⟩
   ·obtain⟨⟨r,hr,j4⟩,rfl⟩:=h
    simp only [aI,aM]at hx ⊢
    obtain⟨g,m',cap,hβ,rfl⟩:=hx.2 r hr j4
    refine⟨_,HG hE h0 h1,hx.1,fun r' kZ _=>?_⟩
    rw [hr]at kZ;cases kZ
    exact⟨g,m',cap,hβ,by rw [Nat.add_assoc]⟩
   ·exact False.elim h
  ·exact False.elim h
 ·exact False.elim h
theorem JS{P:Program}{w:World}{kk:IntKind}{k:Int}{y:Nat}{code:BoundsCode}(h0:0≤k)(h1:k≤y) :
  (Instr.sliceBound (.int kk k) y code).run P w = .ok k.toNat w:=by
 have h2:0≤k∧k≤(y:Int):=⟨h0,h1⟩
 simp [Instr.sliceBound,asIntOf,h2]
theorem S4{P:Program}{w:World}{len cap:Nat}{lo hi mx:Option PV}{vlo vhi vmx:Option Value}{a b m:Nat}
  (y6:∀p,lo=some p → ∃u,vlo=some u∧aI c p u) (ahF:lo=none→vlo=none)
  (SK:∀p,hi=some p → ∃u,vhi=some u∧aI c p u) (azZ:hi=none→vhi=none)
  (hmx:∀p,mx=some p → ∃u,vmx=some u∧aI c p u) (az0:mx=none→vmx=none)
  (h1:wQ 0 lo a) (h2:wQ len hi b) (h3:wQ cap mx m) (hm:mx.isSome=true→hi.isSome=true) (fQ:a≤b) (hbm:b≤m) (hmc:m≤cap) :
  (Instr.sliceBounds true len cap vlo vhi vmx).run P w = .ok (a,b,m) w:=by
 have key:∀ {d y n:Nat} {o:Option PV} {vo:Option Value} {code:BoundsCode},(∀p,o=some p → ∃u,vo=some u∧aI c p u)→(o=none→vo=none)→wQ d o n→n≤y →
   (o=none∧vo=none∧n=d) ∨ ∃kk k,vo=some (.int kk k)∧k.toNat=n∧o.isSome=true ∧ ∀code,(Instr.sliceBound (.int kk k) y code).run P w = .ok n w:=by
  intro d y n o vo code ho ho' hy hn
  cases o with
  | none=>exact .inl ⟨rfl,ho' rfl,hy⟩
  | some p =>
   cases p with
   | int kk k =>
    obtain⟨u,hu,hr⟩:=ho _ rfl
    rw [cR]at hr
    subst hr
    obtain⟨g1,g2⟩:=hy
    exact .inr ⟨kk,k,hu,g2.symm,rfl,fun code=>by rw [JS g1 (by omega),g2]⟩
   | _=>exact False.elim hy
 rcases key (y:=b) (code:=.index) y6 ahF h1 fQ with ⟨rfl,rfl,rfl⟩ | ⟨_,_,rfl,_,_,g1⟩ <;>
 rcases key (y:=m) (code:=.index) SK azZ h2 hbm with ⟨rfl,rfl,rfl⟩ | ⟨_,_,rfl,_,_,g2⟩ <;>
 rcases key (y:=cap) (code:=.index) hmx az0 h3 hmc with ⟨rfl,rfl,rfl⟩ | ⟨_,_,rfl,_,acL,g3⟩ <;>
 first
  | (simp only [Instr.sliceBounds,Sem.run_bind,Sem.run_pure,Result.andThen_ok, *];done)
  | (have:=hm acL;simp at this)
end
section
variable {E:Env} {c:Cx} {w0:World} {S0:eG}
def S5(c:Cx)(p:Option PV)(v:Option Value):Prop:=(∀q,p=some q → ∃u,v=some u∧aI c q u)∧(p=none→v=none)
theorem mR{t e:TypeId}{n bb:Nat}{z:List PV}(hE:E.ty t = .slice e n bb z){A:Option Addr}{len cap:Nat}{lo hi mx:Option PV}{vlo vhi vmx:Option Value}{a b m:Nat}
  (y6:S5 c lo vlo) (SK:S5 c hi vhi) (hmx:S5 c mx vmx)
  (h1:wQ 0 lo a) (h2:wQ len hi b) (h3:wQ cap mx m) (hm:mx.isSome=true→hi.isSome=true) (fQ:a≤b) (hbm:b≤m) (hmc:m≤cap) :
  (Instr.sliceAt t (.slice A len cap) vlo vhi vmx).run E.P c.w = .ok (.slice (if m=a then A else A.map (·.add (a*n))) (b-a) (m-a)) c.w:=by
 obtain⟨hu,hn,_,i,zv,lW,_,hs,_,_,_⟩:=gI hE
 have hb:=S4 (P:=E.P) (w:=c.w) y6.1 y6.2 SK.1 SK.2 hmx.1 hmx.2 h1 h2 h3 hm fQ hbm hmc
 simp [Instr.sliceAt,Instr.slice,run_underlying hu,hb,dD lW,hs]
theorem S6{S:eG}{w:World}{n:Nat}{l:List (List PV)}{g o:Nat}(h:gF S w g o l)(hn:∀e∈l,e.length=n)(a b:Nat):gF S w g (o+a*n) ((l.take b).drop a):=by
 refine pQ (n:=n) (fun e he=>hn e (List.mem_of_mem_take (List.mem_of_mem_drop he))) fun k e hk=>?_
 rw [List.getElem?_drop,List.getElem?_take]at hk
 split at hk
 ·have:=j2 h hn hk
  rw [show o+a*n+k*n=o+(a+k)*n by rw [Nat.add_mul];omega];exact this
 ·cases hk
theorem S7{t:TypeId}{x v:PV}{lo hi mx:Option PV}{vx:Value}{vlo vhi vmx:Option Value}(hI:Inv w0 S0 c)(hx:aI c x vx)(y6:S5 c lo vlo)(SK:S5 c hi vhi)(hmx:S5 c mx vmx)
  (h:pG E t c.rows x lo hi mx v):∃v',(Instr.sliceAt t vx vlo vhi vmx).run E.P c.w = .ok v' c.w∧aI c v v':=by
 unfold pG at h
 split at h
 ·rename_i e n bb z hE
  have sub:∀(l:List (List PV)) (A:Option Addr) (cap a b:Nat),l.length≤cap→cap≤maxLen→(l = [] ∨ ∃g o,A=some ⟨g,o,none⟩∧gF c.S c.w g o l) →
    (∀e∈l,e.length=n)→wQ 0 lo a→wQ l.length hi b→a≤b→b≤l.length →
    SU l a b hi mx v →
    ∃v',(Instr.sliceAt t (.slice A l.length cap) vlo vhi vmx).run E.P c.w = .ok v' c.w∧aI c v v':=by
   intro l A cap a b hlc hcm fU hn h1 h2 fQ hbl h
   have hlen:((l.take b).drop a).length=b-a:=by simp;omega
   have addr:∀m,b≤m→(l.take b).drop a = [] ∨ ∃g o,(if m=a then A else A.map (·.add (a*n)))=some ⟨g,o,none⟩∧gF c.S c.w g o ((l.take b).drop a):=by
    intro m hm
    rcases Nat.lt_or_ge a b with dC | hge
    ·right
     rcases fU with rfl | ⟨g,o,rfl,hr⟩
     ·simp at hbl;omega
     ·rw [if_neg (by omega)]
      exact⟨g,o+a*n,by simp [jP],S6 hr hn a b⟩
    ·left;exact List.eq_nil_of_length_eq_zero (by rw [hlen];omega)
   cases mx with
   | none =>
    simp only [SU]at h
    subst h
    refine⟨_,mR hE y6 SK hmx h1 h2 (m:=cap) (by simp [wQ]) (by simp) fQ (by omega) (Nat.le_refl _),?_⟩
    simp only [aI,aM,dK]
    exact⟨_,cap-a,by rw [hlen],by rw [hlen];omega,by omega,addr cap (by omega)⟩
   | some m =>
    simp only [SU]at h
    obtain⟨c',GI,rfl,acL,rfl⟩:=h
    have h3:wQ cap (some m) b:=by cases m<;>simp_all [wQ]
    refine⟨_,mR hE y6 SK hmx h1 h2 h3 (fun _=>acL) fQ (Nat.le_refl _) (by omega),?_⟩
    simp only [aI,aM,dK]
    exact⟨_,by rw [hlen],by rw [hlen];omega,addr b (Nat.le_refl _)⟩
  split at h
  ·obtain⟨a,b,h1,h2,rfl,rfl,acN,rfl⟩:=h
   simp only [aI,aM,dK]at hx
   subst hx
   have ant:mx=none:=by simpa using acN
   subst ant
   exact⟨_,mR hE y6 SK hmx h1 h2 (m:=0) (by simp [wQ]) (by simp) (Nat.le_refl _) (Nat.le_refl _) (Nat.le_refl _),by simp [aI,aM,dK]⟩
  ·obtain⟨a,b,h1,h2,fQ,hbl,hn,h⟩:=h
   simp only [aI,aM,dK]at hx
   obtain⟨A,cap,rfl,g1,g2,g3⟩:=hx
   exact sub _ A cap a b g1 g2 g3 hn h1 h2 fQ hbl h
  ·obtain⟨a,b,h1,h2,fQ,hbl,hn,h⟩:=h
   simp only [aI,aM,dK]at hx
   obtain⟨A,rfl,g2,g3⟩:=hx
   exact sub _ A _ a b (Nat.le_refl _) g2 g3 hn h1 h2 fQ hbl h
  ·rename_i id ver off len
   obtain⟨r,hr,j4,pP,a,b,h1,h2,fQ,hbl,acN,rfl⟩:=h
   have ant:mx=none:=by simpa using acN
   subst ant
   simp only [aI,aM]at hx ⊢
   obtain⟨acK,hx⟩:=hx
   obtain⟨hle,hx⟩:=hx r hr j4
   obtain⟨⟨xs,jQ,_,_⟩,_⟩:=hI.row id r hr
   have akT:∀A m cap,c.β id = .slice A m cap→r.els.length≤cap:=by
    intro A m cap hβ
    rw [hβ]at jQ
    rcases jQ.2 with ⟨h',hz⟩ | ⟨g,j3,cur,h',_,_,S8,_⟩
    ·simp at h';omega
    ·simp at h';omega
   rcases hx with ⟨rfl,A,m,cap,hβ,rfl⟩ | ⟨l5,g,m,cap,A,hβ,hoc,rfl,ha⟩
   ·have ahG:=akT _ _ _ hβ
    refine⟨_,mR hE y6 SK hmx h1 h2 (m:=cap) (by simp [wQ]) (by simp) fQ (by omega) (Nat.le_refl _),acK,fun r' kZ _=>?_⟩
    rw [hr]at kZ;cases kZ
    refine⟨by omega,?_⟩
    rcases Nat.eq_zero_or_pos a with rfl | WY
    ·left
     refine⟨rfl,A,m,cap,hβ,?_⟩
     congr 1
     cases A<;>simp [Addr.add]
    ·right
     obtain⟨g,j3,sE⟩:=sC hI hr (by omega)
     rw [hβ]at sE
     simp only [Value.slice.injEq]at sE
     obtain⟨rfl,rfl,rfl⟩:=sE
     refine⟨by omega,g,_,_,if cap=a then⟨g,0,none⟩else⟨g,0+a*n,none⟩,hβ,by omega,?_,?_⟩
     ·simp only [Nat.zero_add]
      congr 1
      split<;>simp [jP]
     ·rcases Nat.lt_or_ge a b with dC | hge
      ·right;rw [if_neg (by omega)];simp [pP]
      ·left;omega
   ·have ahG:=akT _ _ _ hβ
    refine⟨_,mR hE y6 SK hmx h1 h2 (m:=cap-off) (by simp [wQ]) (by simp) fQ (by omega) (Nat.le_refl _),acK,fun r' kZ _=>?_⟩
    rw [hr]at kZ;cases kZ
    refine⟨by omega, .inr ⟨by omega,g,m,cap,if cap-off=a then A else A.add (a*n),hβ,by omega,?_,?_⟩⟩
    ·rw [show cap-(off+a)=cap-off-a by omega]
     congr 1
     split<;>simp
    ·rcases Nat.lt_or_ge a b with dC | hge
     ·right
      rcases ha with ha | rfl
      ·omega
      ·rw [if_neg (by omega)];simp [jP,pP,Nat.add_mul]
     ·left;omega
  ·exact False.elim h
 ·exact False.elim h
end
theorem JT{α:Type}(l:List α)(i:Nat)(v:α)(rest:List α)(h:i+rest.length+1≤l.length) :
  ((l.set i v).take (i+1)++rest++(l.set i v).drop (i+1+rest.length))=l.take i++(v::rest)++l.drop (i+(rest.length+1)):=by
 have h1:(l.set i v).take (i+1)=l.take i ++ [v]:=by
  rw [List.take_succ_eq_append_getElem (by simp;omega)]
  simp [List.take_set,List.set_eq_of_length_le (show (l.take i).length≤i by simp;omega)]
 have h2:(l.set i v).drop (i+1+rest.length)=l.drop (i+1+rest.length):=by
  rw [List.drop_set,if_pos (by omega)]
 rw [h1,h2,show i+(rest.length+1)=i+1+rest.length by omega]
 simp
theorem qL(off:Nat):∀(L:List Value) (k:Nat) (arr:Array Value),off+k+L.length≤arr.size →
  ((L.zipIdx k).foldl (fun cs (x:Value × Nat)=>cs.setIfInBounds (off+x.2) x.1) arr).toList=arr.toList.take (off+k)++L++arr.toList.drop (off+k+L.length)
 | [],k,arr,_=>by simp
 | v::L,k,arr,h=>by
  simp only [List.zipIdx_cons,List.foldl_cons]
  rw [qL off L (k+1) (arr.setIfInBounds (off+k) v) (by simp at h ⊢;omega)]
  have:=JT arr.toList (off+k) v L (by simp at h ⊢;omega)
  rw [Array.toList_setIfInBounds,show off+(k+1)=off+k+1 by omega]
  simpa [List.length_cons]using this
section
variable {E:Env} {c:Cx} {w0:World} {S0:eG}
theorem JU{p:PV}{v:Value}(h:aI c p v)(hp:∀l,p ≠ .ag l)(hu:∀l,p ≠ .dX l)(hn:p ≠ .undef)(ho:∀a b d e,p ≠ .own a b d e)(ht:∀a b d e,p ≠ .ptr a b d e):v.cells = #[v]:=by
 cases p with
 | ag l=>exact absurd rfl (hp l)
 | dX l=>exact absurd rfl (hu l)
 | undef=>exact absurd rfl hn
 | own a b d e=>exact absurd rfl (ho a b d e)
 | ptr a b d e=>exact absurd rfl (ht a b d e)
 | bool b=>rw [dO]at h;subst h;rfl
 | int k n=>rw [cR]at h;subst h;rfl
 | str s=>simp only [aI,aM,dK]at h;subst h;rfl
 | lV=>simp only [aI,aM,dK]at h;subst h;rfl
 | nil=>simp only [aI,aM,dK]at h;subst h;rfl
 | sl l=>simp only [aI,aM,dK]at h;obtain⟨a,cap,rfl,_⟩:=h;rfl
 | jA l=>simp only [aI,aM,dK]at h;obtain⟨a,rfl,_⟩:=h;rfl
 | rd l=>simp only [aI,aM,dK]at h;obtain⟨a,o,rfl,_⟩:=h;rfl
 | fn g l=>simp only [aI,aM,dK]at h;obtain⟨a,rfl,_⟩:=h;rfl
theorem S9{p:PV}{v:Value}{l:List PV}(h:aI c p v)(hc:fI p=some l):bF (aM c) l v.cells.toList:=by
 have one:∀q:PV,(aI c q v→aM c q v)→v.cells = #[v]→p=q→l = [q]→bF (aM c) l v.cells.toList:=by
  rintro q hq hv rfl rfl
  rw [hv]
  exact⟨hq h,trivial⟩
 cases p with
 | ag l' =>
  simp only [fI,Option.some.injEq]at hc
  subst hc
  obtain⟨vs,rfl,C4⟩:=h
  simpa [Value.cells]using C4
 | dX _=>simp [fI]at hc
 | undef=>simp [fI]at hc
 | own _ _ _ _=>simp [fI]at hc
 | ptr _ _ _ _=>simp [fI]at hc
 | _ =>
  simp only [fI,Option.some.injEq]at hc
  refine one _ (fun hh=>by simpa only [aI]using hh) (JU h ?_ ?_ ?_ ?_ ?_) rfl hc.symm<;>simp
theorem C7{fs:List (Nat × Nat × Bool)}:∀ {ps:List (Nat × PV)} {vs:List (Nat × Value)} {z l:List PV} {cells:Array Value},
  bF (fun (x:Nat × PV) (y:Nat × Value)=>x.1=y.1∧aI c x.2 y.2) ps vs→bF (aM c) z cells.toList→u3 fs ps z=some l →
  ∃c7,Instr.fill (fun i=>(fs.toArray.map fun x=>(x.1,x.2.1))[i]?) cells vs=some c7∧bF (aM c) l c7.toList
 | [],[],z,l,cells,_,hz,h=>by
  simp only [u3,Option.some.injEq]at h
  subst h
  exact⟨cells,by simp [Instr.fill],hz⟩
 | [],_::_,_,_,_,h,_,_=>h.elim
 | _::_,[],_,_,_,h,_,_=>h.elim
 | (i,p)::ps,(j,v)::vs,z,l,cells,h,hz,hf=>by
  obtain⟨⟨hij,hr⟩,acO⟩:=h
  simp only at hij hr
  subst hij
  simp only [u3]at hf
  split at hf
  ·rename_i o n b l' hfs GJ
   split at hf
   ·rename_i C8
    obtain⟨hl,hon⟩:=C8
    have hc:=S9 hr GJ
    have pP:v.cells.size=n:=by rw [←hl,hc.length];simp
    have GK:z.length=cells.size:=by rw [hz.length];simp
    have HH:=qL o v.cells.toList 0 cells (by simp;omega)
    have hz':bF (aM c) (z.take o++l'++z.drop (o+n)) ((v.cells.toList.zipIdx 0).foldl (fun cs (x:Value × Nat)=>cs.setIfInBounds (o+x.2) x.1) cells).toList:=by
     rw [HH]
     have:v.cells.toList.length=n:=by simp [pP]
     rw [this]
     simpa using((hz.take o).append hc).append (hz.drop (o+n))
    obtain⟨c7,h1,h2⟩:=C7 (fs:=fs) acO hz' hf
    refine⟨c7,?_,h2⟩
    have hpl:(fs.toArray.map fun x=>(x.1,x.2.1))[i]? = some (o,n):=by simp [hfs]
    simp only [Instr.fill,hpl]
    rw [if_neg (by simp [pP];omega)]
    rw [←h1]
    congr 1
    have hz3:v.cells.toList.zipIdx=v.cells.zipIdx.toList:=by simp
    rw [hz3,Array.foldl_toList]
   ·cases hf
  ·cases hf
end
section
variable {E:Env} {c:Cx} {w0:World} {S0:eG}
theorem run_places{fields:Array Field}{fs:List (Nat × Nat × Bool)}(h:bF (oR E.P) fields.toList fs)(w:World) :
  (fields.mapM (fun f=>do pure (f.offset,←Go.sizeOf f.type)):Sem (Array (Nat × Nat))).run E.P w = .ok (fs.toArray.map fun x=>(x.1,x.2.1)) w:=by
 have key:∀(l:List Field) (fs:List (Nat × Nat × Bool)),bF (oR E.P) l fs →
   (l.mapM (fun f=>Functor.map (Prod.mk f.offset) (Go.sizeOf f.type)):Sem (List (Nat × Nat))).run E.P w = .ok (fs.map fun x=>(x.1,x.2.1)) w:=by
  intro l
  induction l with
  | nil =>
   intro fs h
   cases fs with
   | nil=>simp
   | cons _ _=>exact h.elim
  | cons f l ih =>
   intro fs h
   cases fs with
   | nil=>exact h.elim
   | cons x fs =>
    obtain⟨i,h1,h2⟩:=h.1.size
    simp [List.mapM_cons,dD h1,h2,ih fs h.2,h.1.off]
 have h2:=key fields.toList fs h
 rw [Array.mapM_eq_mapM_toList]
 simp [h2]
theorem HI{p p':Nat→Option (Nat × Nat)}(h:∀i x,p i=some x→p' i=some x):∀(l:List (Nat × Value)) (cells r:Array Value),Instr.fill p cells l=some r→Instr.fill p' cells l=some r
 | [],cells,r,h1=>h1
 | (i,v)::l,cells,r,h1=>by
  unfold Instr.fill at h1 ⊢
  cases hp:p i with
  | none=>rw [hp]at h1;cases h1
  | some x =>
   obtain⟨off,size⟩:=x
   rw [hp]at h1
   rw [h i _ hp]
   simp only at h1 ⊢
   split at h1
   ·cases h1
   ·rename_i hc
    rw [if_neg hc]
    exact HI h l _ r h1
theorem TA{t:TypeId}{parts:Array (Nat × Operand)}{ρ:Operand→PV}{vρ:Operand→Value}{v:PV}(hρ:∀x,aI c (ρ x) (vρ x))
  (h:sA (E.ty t) (parts.toList.map fun x=>(x.1,ρ x.2)) v) :
  ∃v',(Instr.build t (parts.map fun(i,x)=>(i,vρ x))).run E.P c.w = .ok v' c.w∧aI c v v':=by
 unfold sA at h
 split at h
 ·rename_i fs z hE
  obtain⟨l,hl,rfl⟩:=h
  have ht:=E.ok t
  rw [hE]at ht
  obtain⟨⟨fields,hu,ha⟩,hz⟩:=ht
  obtain⟨i,zv,hi,hzv,_,TB,_⟩:=hz.ok
  have oT:bF (aM c) z zv.cells.toList:=by
   rw [←TB]
   refine bF.cZ (by simp) fun k a b HE hb=>?_
   simp at HE
   obtain⟨u,hu',rfl⟩:=HE
   have:zv.cells.toList[k]? = some u:=by simpa using hu'
   rw [this]at hb;cases hb
   exact l6 _
  obtain⟨c7,h1,h2⟩:=C7 (c:=c) (fs:=fs) (vs:=(parts.map fun(i,x)=>(i,vρ x)).toList) (cells:=zv.cells) (by
   refine bF.cZ (by simp) fun k a b HE hb=>?_
   simp at HE hb
   obtain⟨i',x,hx,rfl⟩:=HE
   obtain⟨j',y,hy,rfl⟩:=hb
   rw [hx]at hy;cases hy
   exact⟨rfl,hρ _⟩) oT hl
  refine⟨.agg c7,?_,c7.toList,by simp,h2⟩
  have TC:Instr.fill (fun x=>(fs.toArray.map fun x=>(x.1,x.2.1))[x]?) zv.cells (parts.map fun x=>(x.1,vρ x.2)).toList=some c7:=h1
  simp only [Instr.build,zeroValue,typeInfo,program,Sem.run_bind,Sem.run,hi,hzv,Sem.run_pure,Result.andThen_ok,run_underlying hu,run_places ha,TC]
 ·rename_i e k n z hE
  obtain⟨l,hl,rfl⟩:=h
  have ht:=E.ok t
  rw [hE]at ht
  obtain⟨hu,hz,j,hj,hjs⟩:=ht
  obtain⟨i,zv,hi,hzv,_,TB,_⟩:=hz.ok
  have oT:bF (aM c) z zv.cells.toList:=by
   rw [←TB]
   refine bF.cZ (by simp) fun k a b HE hb=>?_
   simp at HE
   obtain⟨u,hu',rfl⟩:=HE
   have:zv.cells.toList[k]? = some u:=by simpa using hu'
   rw [this]at hb;cases hb
   exact l6 _
  obtain⟨c7,h1,h2⟩:=C7 (c:=c) (fs:=SW k n) (vs:=(parts.map fun(i,x)=>(i,vρ x)).toList) (cells:=zv.cells) (by
   refine bF.cZ (by simp) fun k a b HE hb=>?_
   simp at HE hb
   obtain⟨i',x,hx,rfl⟩:=HE
   obtain⟨j',y,hy,rfl⟩:=hb
   rw [hx]at hy;cases hy
   exact⟨rfl,hρ _⟩) oT hl
  refine⟨.agg c7,?_,c7.toList,by simp,h2⟩
  have TC:Instr.fill (fun i=>some (i*n,n)) zv.cells (parts.map fun x=>(x.1,vρ x.2)).toList=some c7:=by
   refine HI (fun i x hx=>?_) _ _ _ h1
   simp only [SW,List.getElem?_toArray,List.map_toArray,List.map_map,List.getElem?_map]at hx
   rw [Option.map_eq_some_iff]at hx
   obtain⟨a,ha,rfl⟩:=hx
   rw [List.getElem?_range]at ha
   ·cases ha;rfl
   ·have:=(List.getElem?_eq_some_iff.1 ha).1
    simpa using this
  simp only [Instr.build,zeroValue,typeInfo,program,Sem.run_bind,Sem.run,hi,hzv,Sem.run_pure,Result.andThen_ok,run_underlying hu,dD hj,hjs,TC]
 ·exact False.elim h
theorem anv{o:Oper}{a:Act}{f:Nat→PV}(hI:Inv w0 S0 c)(hf:∀s,aI c (f s) (a.tmps.getD s undef)){v:PV}(h:yv E o.op (aS f) c.rows v) :
  ∃v',(execOp a.eval o).run E.P c.w = .ok (.value v') c.w∧aI c v v':=by
 have hρ:=nJ hf
 have fin:∀ {s:Sem Value},(∃v',s.run E.P c.w = .ok v' c.w∧aI c v v') → ∃v',(do pure (Next.value (←s)):Sem Next).run E.P c.w = .ok (.value v') c.w∧aI c v v':=by
  rintro s ⟨v',h1,h2⟩
  exact⟨v',by simp [h1],h2⟩
 obtain⟨dst,op,type,pos,after,guard⟩:=o
 simp only at h
 unfold yv at h
 split at h
 ·subst h;exact⟨_,by simp [execOp],hρ _⟩
 ·subst h;exact⟨_,by simp [execOp],hρ _⟩
 ·rename_i x a' b'
  obtain⟨t,ht,rfl⟩:=h
  have:=hρ x
  rw [ht,dO]at this
  refine⟨if t=true then a.eval a' else a.eval b',by simp [execOp,this,asBool],?_⟩
  split
  ·exact hρ _
  ·exact hρ _
 ·exact fin (acH (hρ _) (hρ _) h)
 ·rename_i op _ x
  unfold yun at h
  split at h
  ·rename_i b heq
   subst h
   have:=hρ x
   rw [heq,dO]at this
   exact⟨.bool (!b),by simp [execOp,this,Op.unary],dO.2 rfl⟩
  ·rename_i k n heq
   subst h
   have:=hρ x
   rw [heq,cR]at this
   exact⟨.int k (k.wrap (0-n)),by simp [execOp,this,Op.unary,Op.intArith],cR.2 rfl⟩
  ·exact False.elim h
 ·rename_i s d x
  unfold u4 at h
  split at h
  ·rename_i ks kd k n h1 h2 h3
   subst h
   have:=hρ x
   rw [h3,cR]at this
   have hs:=E.ok s
   have hd:=E.ok d
   rw [h1]at hs
   rw [h2]at hd
   exact⟨.int kd (kd.wrap n),by simp [execOp,this,convert,run_underlying hs.1,run_underlying hd.1,Conv.intToInt],cR.2 rfl⟩
  ·exact False.elim h
 ·rename_i x i
  unfold SV at h
  split at h
  ·rename_i l heq
   have:=hρ x
   rw [heq]at this
   simp only [aI,aM,dK]at this
   obtain⟨vs,C4,hl⟩:=this
   obtain⟨u,hu,hr⟩:=(cS.1 hl).get h
   exact⟨u,by simp [execOp,C4,Instr.extract,hu],aI.j0 hr⟩
  ·exact False.elim h
 ·exact fin (HF hI (hρ _) h)
 ·exact fin (S3 (hρ _) h)
 ·exact fin (C5 (hρ _) h)
 ·exact fin (C6 hI (hρ _) (hρ _) h)
 ·rename_i t x lo hi mx
  have ho:∀y:Option Operand,S5 c (y.map (aS f)) (y.map a.eval):=fun y=>by
   cases y with
   | none=>exact⟨by simp,by simp⟩
   | some y=>exact⟨fun q hq=>by simp at hq;subst hq;exact⟨_,rfl,hρ y⟩,by simp⟩
  exact fin (S7 hI (hρ _) (ho _) (ho _) (ho _) h)
 ·exact fin (TA hρ h)
 ·rename_i t x ix
  unfold vK at h
  split at h
  ·rename_i e m n z l k kk h1 h2 h3
   obtain⟨⟨q1,q2,rfl,⟨q3,q4⟩,q5⟩,rfl⟩:=h
   have g2:=hρ x
   have g3:=hρ ix
   rw [h2]at g2
   rw [h3,cR]at g3
   obtain⟨vs,g4,g5⟩:=g2
   have ht:=E.ok t
   rw [h1]at ht
   obtain⟨t1,_,i,t2,t3⟩:=ht
   obtain⟨d,hd⟩:=(E.ok e).und q1
   obtain⟨u,hu,hr⟩:=g5.get (List.getElem?_eq_getElem q5)
   refine⟨u,?_,?_⟩
   ·have dC:(kk.toNat:Int)<m:=by omega
    have hkm:kk<m:=by omega
    simp [execOp,g4,g3,Instr.index,asIntOf,run_underlying t1,q3,hkm,dD t2,t3,part,nY hd,(E.ok e).atz q1,q2,hu]
   ·rw [show l.getD kk.toNat .undef=l[kk.toNat]by simp [List.getD,List.getElem?_eq_getElem q5]]
    cases hp:l[kk.toNat]with
    | ag l'=>rw [hp]at hr;exact(by simp only [aM,dK]at hr;obtain⟨F5,r1,r2⟩:=hr;exact⟨F5,r1,(cS.1 r2).mono fun _ _ h=>aM.j0 h⟩)
    | _=>rw [hp]at hr;exact hr
  ·rename_i s k kk h1 h2 h3
   obtain⟨h0,b,hb,rfl⟩:=h
   have g2:=hρ x
   have g3:=hρ ix
   rw [h2]at g2
   rw [h3,cR]at g3
   simp only [aI,aM,dK]at g2
   have ht:=E.ok t
   rw [h1]at ht
   refine⟨.int .u8 b.toNat,by simp [execOp,g2,g3,Instr.index,asIntOf,run_underlying ht.1,h0,hb],cR.2 rfl⟩
  ·exact False.elim h
 ·rename_i g caps
  obtain⟨hp,rfl⟩:=h
  refine⟨.func (.func g) #[] (caps.map a.eval),by simp [execOp,Instr.makeFunc],?_⟩
  simp only [aI,aM,dK]
  refine⟨(caps.map a.eval).toList,by rw [Array.toArray_toList],cS.2 (bF.cZ (by simp) fun k p u yT hu=>?_)⟩
  simp at yT hu
  obtain⟨x,hx,rfl⟩:=yT
  obtain⟨y,hy,rfl⟩:=hu
  rw [hx]at hy;cases hy
  have h1:dI (aS f x)=true:=List.all_eq_true.1 hp _ (by simp;exact⟨x,Array.mem_of_getElem? hx,rfl⟩)
  exact aI.rep (hρ x) h1
 ·rename_i x t
  unfold AB at h
  split at h
  ·rename_i e n b z hE
   obtain⟨hu,_⟩:=gI hE
   obtain⟨n',hn,rfl⟩:=h
   have hx:=hρ x
   have key:∀A cap,a.eval x = .slice A n' cap→(execOp a.eval { dst:=dst,op:=.call { callee:=.builtin .len,args:=⟨[x]⟩,argTypes:=⟨[t]⟩ },type:=type,pos:=pos,after:=after,guard:=guard }).run E.P c.w = .ok (.value (.int .i64 n')) c.w:=by
    intro A cap hA
    simp [execOp,resolve,invoke,builtin,Builtin.len_,hA,run_underlying hu,goInt]
   refine⟨.int .i64 n',?_,cR.2 rfl⟩
   unfold aaf at hn
   split at hn
   ·rename_i heq;rw [heq]at hx;simp only [aI,aM,dK]at hx;exact key none 0 (by rw [hx,hn])
   ·rename_i heq;rw [heq]at hx;simp only [aI,aM,dK]at hx;obtain⟨A,cap,hA,_⟩:=hx;exact key A cap (by rw [hA,hn])
   ·rename_i heq;rw [heq]at hx;simp only [aI,aM,dK]at hx;obtain⟨A,hA,_⟩:=hx;exact key A _ (by rw [hA,hn])
   ·rename_i heq
    rw [heq]at hx
    simp only [aI,aM]at hx
    obtain⟨⟨r,hr,j4⟩,rfl⟩:=hn
    rcases(hx.2 r hr j4).2 with ⟨_,A,m,cap,_,hA⟩ | ⟨_,g,m,cap,A,_,_,hA,_⟩
    ·exact key A cap hA
    ·exact key (some A) _ hA
   ·exact False.elim hn
  ·exact False.elim h
 ·rename_i x y ts
  unfold SX at h
  split at h
  ·rename_i k1 a1 k2 a2 h1 h2
   subst h
   have g1:=hρ x
   have g2:=hρ y
   rw [h1,cR]at g1
   rw [h2,cR]at g2
   refine⟨.int k1 (if a2>a1 then a2 else a1),by simp [execOp,resolve,invoke,builtin,Builtin.max_,Builtin.max2,g1,g2],cR.2 rfl⟩
  ·exact False.elim h
 ·rename_i x y ts
  unfold SY at h
  split at h
  ·rename_i k1 a1 k2 a2 h1 h2
   subst h
   have g1:=hρ x
   have g2:=hρ y
   rw [h1,cR]at g1
   rw [h2,cR]at g2
   refine⟨.int k1 (if a2<a1 then a2 else a1),by simp [execOp,resolve,invoke,builtin,Builtin.min_,Builtin.min2,g1,g2],cR.2 rfl⟩
  ·exact False.elim h
 ·rename_i x
  unfold GH at h
  have hx:=hρ x
  split at h
  ·rename_i l heq
   rw [heq]at hx
   subst h
   have HJ:=hx
   simp only [aI,aM,dK]at hx
   obtain⟨b,o,hv,_⟩:=hx
   exact⟨a.eval x,by simp [execOp,hv],HJ⟩
  ·rename_i id ver i j heq
   rw [heq]at hx
   obtain⟨⟨r,hr,j4⟩,rfl⟩:=h
   have HJ:=hx
   simp only [aI,aM]at hx
   obtain⟨g,n,cap,_,hv⟩:=hx.2 r hr j4
   exact⟨a.eval x,by simp [execOp,hv],HJ⟩
  ·exact False.elim h
 ·exact False.elim h
end
def eC{α:Type}(f:Nat→α)(i:Nat)(x:α):Nat→α:=fun j=>if j=i then x else f j
theorem fX{α:Type}(f:Nat→α)(i:Nat)(x:α):eC f i x i=x:=by simp [eC]
theorem jI{α:Type}(f:Nat→α){i j:Nat}(x:α)(h:j≠i):eC f i x j=f j:=by simp [eC,h]
def iT(rows:Rows):PV→Prop
 | .own id ver _ _=>∃r,rows id=some r∧r.ver=ver
 | .ptr id ver _ _=>∃r,rows id=some r∧r.ver=ver
 | .ag _=>False
 | .dX _=>False
 | .undef=>False
 | _=>True
section
variable {E:Env} {c:Cx} {w0:World} {S0:eG}
theorem aM.one{p:PV}{v:Value}(h:aM c p v)(ho:iT c.rows p):v.oneCell'=true:=by
 cases p with
 | own id ver off len =>
  obtain⟨r,hr,hv⟩:=ho
  simp only [aM]at h
  rcases(h.2 r hr hv).2 with ⟨_,A,n,cap,_,rfl⟩ | ⟨_,g,n,cap,A,_,_,rfl,_⟩<;>rfl
 | ptr id ver i j =>
  obtain⟨r,hr,hv⟩:=ho
  simp only [aM]at h
  obtain⟨g,n,cap,_,rfl⟩:=h.2 r hr hv
  rfl
 | ag l=>exact ho.elim
 | dX l=>exact ho.elim
 | undef=>exact ho.elim
 | bool b=>simp only [aM,dK]at h;subst h;rfl
 | int k n=>simp only [aM,dK]at h;subst h;rfl
 | str s=>simp only [aM,dK]at h;subst h;rfl
 | lV=>simp only [aM,dK]at h;subst h;rfl
 | nil=>simp only [aM,dK]at h;subst h;rfl
 | sl l=>simp only [aM,dK]at h;obtain⟨a,cap,rfl,_⟩:=h;rfl
 | jA l=>simp only [aM,dK]at h;obtain⟨a,rfl,_⟩:=h;rfl
 | rd l=>simp only [aM,dK]at h;obtain⟨a,o,rfl,_⟩:=h;rfl
 | fn g l=>simp only [aM,dK]at h;obtain⟨a,rfl,_⟩:=h;rfl
def cQ:PV→Option (List PV)
 | .ag l=>some l
 | .dX _=>none
 | .undef=>none
 | p=>some [p]
theorem nZ{p:PV}{v:Value}{l:List PV}(h:aI c p v)(hc:cQ p=some l)(ho:∀q∈l,iT c.rows q):bF (aM c) l v.cells.toList ∧ ∀u∈v.cells.toList,u.oneCell'=true:=by
 have key:bF (aM c) l v.cells.toList:=by
  have one:∀q:PV,p=q→l = [q]→(aI c q v→aM c q v)→bF (aM c) l v.cells.toList:=by
   rintro q rfl rfl hq
   have h1:=hq h
   have h2:=h1.one (ho _ (by simp))
   have h3:v.cells = #[v]:=by cases v<;>simp_all [Value.cells,Value.oneCell']
   rw [h3]
   exact⟨h1,trivial⟩
  cases p with
  | ag l' =>
   simp only [cQ,Option.some.injEq]at hc
   subst hc
   obtain⟨vs,rfl,C4⟩:=h
   simpa [Value.cells]using C4
  | dX _=>simp [cQ]at hc
  | undef=>simp [cQ]at hc
  | _ =>
   simp only [cQ,Option.some.injEq]at hc
   exact one _ rfl hc.symm (fun hh=>by simpa only [aI]using hh)
 refine⟨key,fun u hu=>?_⟩
 obtain⟨k,hk⟩:=List.getElem?_of_mem hu
 have hl:k<l.length:=by rw [key.length];exact(List.getElem?_eq_some_iff.1 hk).1
 obtain⟨u',h1,h2⟩:=key.get (List.getElem?_eq_getElem hl)
 rw [hk]at h1;cases h1
 exact h2.one (ho _ (List.getElem_mem hl))
theorem Inv.step{ob:Option Nat}{w':World}(hI:Inv w0 S0 c)(hg:c.w.grownBy w' ob)(hob:∀g,ob=some g→w0.heap.size≤g ∧ ∀o,¬c.S g o) :
  Below w0.heap.size w0 w'∧(∀b o,c.S b o→w'.cell? ⟨b,o,none⟩=c.w.cell? ⟨b,o,none⟩):=by
 refine⟨hI.below.grown hg hI.below.size (fun k hk=>(hob k hk).1),fun b o hS=>World.cell?_of_block (hg.block b (hI.lt hS) ?_)⟩
 intro h
 exact(hob b h.symm).2 o hS
theorem Inv.set(hI:Inv w0 S0 c){ob:Option Nat}{w':World}{id:Nat}{r':Row}{v':Value}{xs:List Value}(hg:c.w.grownBy w' ob)
  (hob:∀g,ob=some g→w0.heap.size≤g∧(∀o,¬c.S g o) ∧ ∀jO r,c.rows jO=some r→jO≠id→(c.β jO).ownBlock≠some g)
  (jQ:w'.ownsRow w0.heap.size r'.e r'.size v' r'.els.length xs) (fU:bF (aM c) r'.els.flatten xs) (jR:∀x∈xs,x.oneCell'=true)
  (hlen:∀e∈r'.els,e.length=r'.size) (l5:0<r'.size) (qM:∀g,v'.ownBlock=some g→ob=some g∨c.w.heap.size≤g) (j4:¬c.used r'.ver) :
  Inv w0 S0 { c with w:=w',β:=eC c.β id v',rows:=eC c.rows id (some r'),used:=fun v=>v=r'.ver∨c.used v } ∧
  uT c { c with w:=w',β:=eC c.β id v',rows:=eC c.rows id (some r'),used:=fun v=>v=r'.ver∨c.used v }:=by
 obtain⟨aai,HK⟩:=hI.step hg fun g h=>⟨(hob g h).1,(hob g h).2.1⟩
 have GF:uT c { c with w:=w',β:=eC c.β id v',rows:=eC c.rows id (some r'),used:=fun v=>v=r'.ver∨c.used v }:=by
  refine⟨fun _ _ h=>h,HK,fun _ h => .inr h,fun jO r hr=>?_⟩
  by_cases gL:jO=id
  ·subst gL
   simp only [fX,Option.some.injEq]at hr
   subst hr
   exact .inl j4
  ·simp only [jI _ _ gL]at hr ⊢
   exact .inr ⟨r,hr,rfl,rfl,rfl,by first | rfl | trivial⟩
 refine⟨⟨aai,hI.ext,fun b o h=>(hI.new b o h).imp (fun h=>h) fun h=>⟨h.1,Nat.lt_of_lt_of_le h.2 hg.size⟩,hI.lt0,fun jO r hr=>?_,fun jO r hr=>?_,fun i j r s g hr hs h1 h2=>?_,by
  obtain⟨N,hN⟩:=hI.fin
  refine⟨max N (r'.ver+1),fun v hv=>?_⟩
  rcases hv with hv | hv
  ·have hv:v=r'.ver:=hv
   omega
  ·have:=hN v hv
   omega⟩,GF⟩
 ·by_cases gL:jO=id
  ·subst gL
   simp only [fX,Option.some.injEq]at hr
   subst hr
   exact .inl rfl
  ·simp only [jI _ _ gL]at hr
   exact .inr (hI.clock jO r hr)
 ·by_cases gL:jO=id
  ·subst gL
   simp only [fX,Option.some.injEq]at hr
   subst hr
   refine⟨⟨xs,by simpa only [fX]using jQ,fU.mono (aM.uZ GF),jR⟩,hlen,fun g o M7 hS=>?_,l5⟩
   simp only [fX]at M7
   rcases qM g M7 with h | h
   ·exact(hob g h).2.1 o hS
   ·have:=hI.lt (show c.S g o from hS);omega
  ·simp only [jI _ _ gL]at hr
   obtain⟨⟨ys,g1,g2,g3⟩,g4,g5,g6⟩:=hI.row jO r hr
   refine⟨⟨ys,?_,g2.mono (aM.uZ GF),g3⟩,g4,fun g o M7 hS=>?_,g6⟩
   ·simp only [jI _ _ gL]
    refine g1.kept hg ?_
    cases hb:(c.β jO).ownBlock with
    | none=>exact .inl rfl
    | some g =>
     right
     intro he
     exact(hob g he.symm).2.2 jO r hr gL hb
   ·simp only [jI _ _ gL]at M7
    exact g5 g o M7 hS
 ·-- apart
  have other:∀(k:Nat) (t:Row) (g:Nat),k≠id→c.rows k=some t→(c.β k).ownBlock=some g→v'.ownBlock=some g→False:=by
   intro k t g hk ht hb hv
   rcases qM g hv with h | h
   ·exact(hob g h).2.2 k t ht hk hb
   ·obtain⟨⟨ys,g1,_,_⟩,_⟩:=hI.row k t ht
    have:=(g1.lt g hb).2
    omega
  by_cases hi:i=id
  ·by_cases hj:j=id
   ·rw [hi,hj]
   ·subst hi
    simp only [fX,jI _ _ hj]at h1 h2 hs
    exact(other j s g hj hs h2 h1).elim
  ·by_cases hj:j=id
   ·subst hj
    simp only [fX,jI _ _ hi]at h1 h2 hr
    exact(other i r g hi hr h1 h2).elim
   ·simp only [jI _ _ hi,jI _ _ hj]at h1 h2 hr hs
    exact hI.apart i j r s g hr hs h1 h2
theorem Inv.eC(hI:Inv w0 S0 c){w':World}{id:Nat}{r r':Row}{xs:List Value}(hr:c.rows id=some r)(hg:c.w.grownBy w' (c.β id).ownBlock)
  (jQ:w'.ownsRow w0.heap.size r'.e r'.size (c.β id) r'.els.length xs) (fU:bF (aM c) r'.els.flatten xs) (jR:∀x∈xs,x.oneCell'=true)
  (hlen:∀e∈r'.els,e.length=r'.size) (j4:r'.ver=r.ver) (akV:r'.size=r.size) (C9:r'.els.length=r.els.length) :
  Inv w0 S0 { c with w:=w',rows:=Pm.eC c.rows id (some r') }∧uT c { c with w:=w',rows:=Pm.eC c.rows id (some r') }:=by
 have hob:∀g,(c.β id).ownBlock=some g→w0.heap.size≤g ∧ ∀o,¬c.S g o:=by
  intro g h
  obtain⟨⟨ys,g1,_,_⟩,_,g5,_⟩:=hI.row id r hr
  exact⟨(g1.lt g h).1,fun o=>g5 g o h⟩
 obtain⟨aai,HK⟩:=hI.step hg hob
 have GF:uT c { c with w:=w',rows:=Pm.eC c.rows id (some r') }:=by
  refine⟨fun _ _ h=>h,HK,fun _ h=>h,fun jO s hs=>?_⟩
  by_cases gL:jO=id
  ·subst gL
   simp only [fX,Option.some.injEq]at hs
   subst hs
   exact .inr ⟨r,hr,j4.symm,akV.symm,C9.symm,rfl⟩
  ·simp only [jI _ _ gL]at hs
   exact .inr ⟨s,hs,rfl,rfl,rfl,rfl⟩
 refine⟨⟨aai,hI.ext,fun b o h=>(hI.new b o h).imp (fun h=>h) fun h=>⟨h.1,Nat.lt_of_lt_of_le h.2 hg.size⟩,hI.lt0,fun jO s hs=>?_,fun jO s hs=>?_,fun i j t s g ht hs h1 h2=>?_,hI.fin⟩,GF⟩
 ·by_cases gL:jO=id
  ·subst gL
   simp only [fX,Option.some.injEq]at hs
   subst hs
   rw [j4];exact hI.clock jO r hr
  ·simp only [jI _ _ gL]at hs
   exact hI.clock jO s hs
 ·by_cases gL:jO=id
  ·subst gL
   simp only [fX,Option.some.injEq]at hs
   subst hs
   exact⟨⟨xs,jQ,fU.mono (aM.uZ GF),jR⟩,hlen,(hI.row jO r hr).azU,by rw [akV];exact(hI.row jO r hr).pos⟩
  ·simp only [jI _ _ gL]at hs
   obtain⟨⟨ys,g1,g2,g3⟩,g4,g5,g6⟩:=hI.row jO s hs
   refine⟨⟨ys,g1.kept hg ?_,g2.mono (aM.uZ GF),g3⟩,g4,g5,g6⟩
   cases hb:(c.β jO).ownBlock with
   | none=>exact .inl rfl
   | some g =>
    right
    intro he
    exact gL (hI.apart jO id s r g hs hr hb he.symm)
 ·have live:∀k t,Pm.eC c.rows id (some r') k=some t → ∃t',c.rows k=some t':=by
   intro k t hk
   by_cases gL:k=id
   ·subst gL;exact⟨r,hr⟩
   ·rw [jI _ _ gL]at hk;exact⟨t,hk⟩
  obtain⟨t',ht'⟩:=live i t ht
  obtain⟨s',yU⟩:=live j s hs
  exact hI.apart i j t' s' g ht' yU h1 h2
end
end Pm
