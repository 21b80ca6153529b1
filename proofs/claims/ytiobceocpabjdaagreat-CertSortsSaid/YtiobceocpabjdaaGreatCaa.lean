import Derived.WalkKit
import Derived.StillTail
import Derived.Maps.AppendAt
set_option linter.unusedSimpArgs false
set_option linter.unusedVariables false
namespace Pm
open Go Go.RowKit
inductive PV where
 | undef
 | bool (b:Bool)
 | int (k:IntKind) (n:Int)
 | str (s:ByteArray)
 | nil
 | sl (l:List (List PV))
 | fX (l:List (List PV))
 | rd (l:List PV)
 | fn (f:FuncId) (b8:List PV)
 | own (id ver off len:Nat)
 | ptr (id ver i j:Nat)
 | ag (l:List PV)
 | eQ (l:List PV)
 | iN
abbrev cY:=Nat→Nat→Prop
mutual
def cG(S:cY)(w:World):PV→Value→Prop
 | .undef,_=>False
 | .bool b,v=>v = .bool b
 | .int k n,v=>v = .int k n
 | .str s,v=>v = .string s
 | .nil,v=>v = .slice none 0 0
 | .sl l,v=>∃a cap,v = .slice a l.length cap∧l.length≤cap∧cap≤maxLen∧(l = [] ∨ ∃b o,a=some ⟨b,o,none⟩∧dX S w b o l)
 | .fX l,v=>∃a,v = .slice a l.length l.length∧l.length≤maxLen∧(l = [] ∨ ∃b o,a=some ⟨b,o,none⟩∧dX S w b o l)
 | .rd l,v=>∃b o,v = .pointer (some ⟨b,o,none⟩)∧cI S w b o l
 | .fn f b8,v=>∃cs,v = .func (.func f) #[] cs.toArray∧a7 S w b8 cs
 | .own _ _ _ _,_=>False
 | .ptr _ _ _ _,_=>False
 | .ag l,v=>∃vs,v = .agg vs.toArray∧a7 S w l vs
 | .eQ l,v=>∃vs,v = .tuple vs.toArray∧a7 S w l vs
 | .iN,v=>v = .pointer none
def a7(S:cY)(w:World):List PV→List Value→Prop
 | [],vs=>vs = []
 | p::ps,vs=>∃v BM,vs=v::BM∧cG S w p v∧a7 S w ps BM
def cI(S:cY)(w:World)(b o:Nat):List PV→Prop
 | []=>True
 | p::ps=>(∃v,w.cell? ⟨b,o,none⟩=some v∧S b o∧v.oneCell'=true∧cG S w p v)∧cI S w b (o+1) ps
def dX(S:cY)(w:World)(b o:Nat):List (List PV)→Prop
 | []=>True
 | e::es=>cI S w b o e∧dX S w b (o+e.length) es
end
section mono
variable {S S':cY} {w w':World}
mutual
theorem cG.mono(hS:∀b o,S b o→S' b o)(hw:∀b o,S b o→w'.cell? ⟨b,o,none⟩=w.cell? ⟨b,o,none⟩):∀(p:PV) (v:Value),cG S w p v→cG S' w' p v
 | .undef,_,h=>by simp [cG]at h
 | .bool b,_,h=>by simpa [cG]using h
 | .int k n,_,h=>by simpa [cG]using h
 | .str s,_,h=>by simpa [cG]using h
 | .iN,_,h=>by simpa [cG]using h
 | .nil,_,h=>by simpa [cG]using h
 | .sl l,v,h=>by
  simp only [cG]at h ⊢
  obtain⟨a,cap,h1,h2,h3,h4⟩:=h
  exact⟨a,cap,h1,h2,h3,h4.imp id fun⟨b,o,ha,hr⟩=>⟨b,o,ha,dX.mono hS hw l b o hr⟩⟩
 | .fX l,v,h=>by
  simp only [cG]at h ⊢
  obtain⟨a,h1,h3,h4⟩:=h
  exact⟨a,h1,h3,h4.imp id fun⟨b,o,ha,hr⟩=>⟨b,o,ha,dX.mono hS hw l b o hr⟩⟩
 | .rd l,v,h=>by
  simp only [cG]at h ⊢
  obtain⟨b,o,h1,h2⟩:=h
  exact⟨b,o,h1,cI.mono hS hw l b o h2⟩
 | .fn f b8,v,h=>by
  simp only [cG]at h ⊢
  obtain⟨cs,h1,h2⟩:=h
  exact⟨cs,h1,a7.mono hS hw b8 cs h2⟩
 | .own _ _ _ _,_,h=>by simp [cG]at h
 | .ptr _ _ _ _,_,h=>by simp [cG]at h
 | .ag l,v,h=>by
  simp only [cG]at h ⊢
  obtain⟨cs,h1,h2⟩:=h
  exact⟨cs,h1,a7.mono hS hw l cs h2⟩
 | .eQ l,v,h=>by
  simp only [cG]at h ⊢
  obtain⟨cs,h1,h2⟩:=h
  exact⟨cs,h1,a7.mono hS hw l cs h2⟩
theorem a7.mono(hS:∀b o,S b o→S' b o)(hw:∀b o,S b o→w'.cell? ⟨b,o,none⟩=w.cell? ⟨b,o,none⟩):∀(l:List PV) (vs:List Value),a7 S w l vs→a7 S' w' l vs
 | [],_,h=>by simpa [a7]using h
 | p::ps,vs,h=>by
  simp only [a7]at h ⊢
  obtain⟨v,BM,h1,h2,h3⟩:=h
  exact⟨v,BM,h1,cG.mono hS hw p v h2,a7.mono hS hw ps BM h3⟩
theorem cI.mono(hS:∀b o,S b o→S' b o)(hw:∀b o,S b o→w'.cell? ⟨b,o,none⟩=w.cell? ⟨b,o,none⟩):∀(l:List PV) (b o:Nat),cI S w b o l→cI S' w' b o l
 | [],_,_,_=>by simp [cI]
 | p::ps,b,o,h=>by
  simp only [cI]at h ⊢
  obtain⟨⟨v,h1,h2,h5,h3⟩,h4⟩:=h
  exact⟨⟨v,by rw [hw b o h2];exact h1,hS b o h2,h5,cG.mono hS hw p v h3⟩,cI.mono hS hw ps b (o+1) h4⟩
theorem dX.mono(hS:∀b o,S b o→S' b o)(hw:∀b o,S b o→w'.cell? ⟨b,o,none⟩=w.cell? ⟨b,o,none⟩):∀(l:List (List PV)) (b o:Nat),dX S w b o l→dX S' w' b o l
 | [],_,_,_=>by simp [dX]
 | e::es,b,o,h=>by
  simp only [dX]at h ⊢
  exact⟨cI.mono hS hw e b o h.1,dX.mono hS hw es b (o+e.length) h.2⟩
end
end mono
def a6{α β:Type}(R:α→β→Prop):List α→List β→Prop
 | [],[]=>True
 | a::avs,b::bs=>R a b∧a6 R avs bs
 | _,_=>False
section amS
variable {α β:Type} {R R':α→β→Prop}
theorem a6.mono(h:∀a b,R a b→R' a b):∀ {l:List α} {m:List β},a6 R l m→a6 R' l m
 | [],[],_=>trivial
 | _::_,_::_,hh=>⟨h _ _ hh.1,a6.mono h hh.2⟩
 | [],_::_,hh=>hh.elim
 | _::_,[],hh=>hh.elim
theorem a6.length:∀ {l:List α} {m:List β},a6 R l m→l.length=m.length
 | [],[],_=>rfl
 | _::_,_::_,hh=>by simp [a6.length hh.2]
 | [],_::_,hh=>hh.elim
 | _::_,[],hh=>hh.elim
theorem a6.get:∀ {l:List α} {m:List β},a6 R l m → ∀ {k:Nat} {a:α},l[k]? = some a → ∃b,m[k]? = some b∧R a b
 | [],[],_,_,_,h=>by simp at h
 | _::_,_::_,hh,0,_,h=>by simp at h;subst h;exact⟨_,by simp,hh.1⟩
 | _::_,_::_,hh,k+1,_,h=>by simp at h;simpa using a6.get hh.2 h
 | [],_::_,hh,_,_,_=>hh.elim
 | _::_,[],hh,_,_,_=>hh.elim
theorem a6.cO:∀ {l:List α} {m:List β},l.length=m.length→(∀(k:Nat) a b,l[k]? = some a→m[k]? = some b→R a b)→a6 R l m
 | [],[],_,_=>trivial
 | a::l,b::m,hl,h=>⟨h 0 a b (by simp) (by simp),a6.cO (by simpa using hl) fun k x y hx hy=>h (k+1) x y (by simpa using hx) (by simpa using hy)⟩
 | [],_::_,hl,_=>by simp at hl
 | _::_,[],hl,_=>by simp at hl
theorem a6.append:∀ {l:List α} {m:List β} {l':List α} {m':List β},a6 R l m→a6 R l' m'→a6 R (l++l') (m++m')
 | [],[],_,_,_,h=>by simpa using h
 | _::_,_::_,_,_,hh,h=>⟨hh.1,a6.append hh.2 h⟩
 | [],_::_,_,_,hh,_=>hh.elim
 | _::_,[],_,_,hh,_=>hh.elim
theorem a6.take{l:List α}{m:List β}(h:a6 R l m)(n:Nat):a6 R (l.take n) (m.take n):=
 a6.cO (by simp [h.length]) fun k a b ha hb=>by
  rw [List.getElem?_take]at ha hb
  split at ha
  ·rename_i hk;rw [if_pos hk]at hb;obtain⟨b',wS,hr⟩:=h.get ha;rw [hb]at wS;cases wS;exact hr
  ·cases ha
theorem a6.drop{l:List α}{m:List β}(h:a6 R l m)(n:Nat):a6 R (l.drop n) (m.drop n):=
 a6.cO (by simp [h.length]) fun k a b ha hb=>by
  rw [List.getElem?_drop]at ha hb
  obtain⟨b',wS,hr⟩:=h.get ha;rw [hb]at wS;cases wS;exact hr
end amS
theorem b5{S:cY}{w:World}:∀ {l:List PV} {vs:List Value},a7 S w l vs↔a6 (cG S w) l vs
 | [],[]=>by simp [a7,a6]
 | [],_::_=>by simp [a7,a6]
 | p::ps,[]=>by simp [a7,a6]
 | p::ps,v::vs=>by
  simp only [a7,a6]
  constructor
  ·rintro⟨v',BM,h,h1,h2⟩;cases h;exact⟨h1,b5.1 h2⟩
  ·rintro⟨h1,h2⟩;exact⟨v,vs,rfl,h1,b5.2 h2⟩
structure Row where
 ver:Nat
 e:TypeId
 size:Nat
 els:List (List PV)
abbrev Rows:=Nat→Option Row
structure Cx where
 S:cY
 w:World
 β:Nat→Value
 rows:Rows
 used:Nat→Prop
def aM(c:Cx):PV→Value→Prop
 | .undef,_=>True
 | .own id ver off len,v=>c.used ver ∧ ∀r,c.rows id=some r→r.ver=ver→off+len≤r.els.length ∧
   ((off=0 ∧ ∃a n cap,c.β id = .slice a n cap∧v = .slice a len cap) ∨
    (0<off ∧ ∃g n cap a,c.β id = .slice (some ⟨g,0,none⟩) n cap∧off≤cap∧v = .slice (some a) len (cap-off)∧(len=0∨a=⟨g,off*r.size,none⟩)))
 | .ptr id ver i j,v=>c.used ver ∧ ∀r,c.rows id=some r→r.ver=ver → ∃g n cap,c.β id = .slice (some ⟨g,0,none⟩) n cap∧v = .pointer (some ⟨g,i*r.size+j,none⟩)
 | p,v=>cG c.S c.w p v
def aF(c:Cx):PV→Value→Prop
 | .ag l,v=>∃vs,v = .agg vs.toArray∧a6 (aM c) l vs
 | p,v=>aM c p v
structure ahe(w0:World)(c:Cx)(id:Nat)(r:Row):Prop where
 own:∃xs,c.w.ownsRow w0.heap.size r.e r.size (c.β id) r.els.length xs∧a6 (aM c) r.els.flatten xs∧(∀x∈xs,x.oneCell'=true)
 len:∀e∈r.els,e.length=r.size
 amT:∀g o,(c.β id).ownBlock=some g→¬c.S g o
 pos:0<r.size
structure Inv(w0:World)(S0:cY)(c:Cx):Prop where
 below:Below w0.heap.size w0 c.w
 ext:∀b o,S0 b o→c.S b o
 new:∀b o,c.S b o→S0 b o∨(w0.heap.size≤b∧b<c.w.heap.size)
 lt0:∀b o,S0 b o→b<w0.heap.size
 clock:∀id r,c.rows id=some r→c.used r.ver
 row:∀id r,c.rows id=some r→ahe w0 c id r
 apart:∀id fZ r r' g,c.rows id=some r→c.rows fZ=some r'→(c.β id).ownBlock=some g→(c.β fZ).ownBlock=some g→id=fZ
theorem Inv.lt{w0:World}{S0:cY}{c:Cx}(h:Inv w0 S0 c){b o:Nat}(hb:c.S b o):b<c.w.heap.size:=by
 rcases h.new b o hb with h1 | h1
 ·have:=h.lt0 b o h1;have:=h.below.size;omega
 ·exact h1.2
structure oF(c c':Cx):Prop where
 S:∀b o,c.S b o→c'.S b o
 w:∀b o,c.S b o→c'.w.cell? ⟨b,o,none⟩=c.w.cell? ⟨b,o,none⟩
 clock:∀v,c.used v→c'.used v
 rows:∀id r',c'.rows id=some r'→¬c.used r'.ver ∨ ∃r,c.rows id=some r∧r.ver=r'.ver∧r.size=r'.size∧r.els.length=r'.els.length∧c'.β id=c.β id
theorem oF.refl(c:Cx):oF c c:=⟨fun _ _ h=>h,fun _ _ _=>rfl,fun _ h=>h,fun _ r h => .inr ⟨r,h,rfl,rfl,rfl,rfl⟩⟩
theorem aM.o6{c c':Cx}(h:oF c c'):∀(p:PV) (v:Value),aM c p v→aM c' p v:=by
 intro p v hp
 cases p with
 | undef=>simp [aM]
 | own id ver off len =>
  simp only [aM]at hp ⊢
  refine⟨h.clock _ hp.1,fun r' i7 hv=>?_⟩
  rcases h.rows id r' i7 with h1 | ⟨r,h1,h2,h3,h4,h5⟩
  ·exact absurd (show c.used r'.ver by rw [hv];exact hp.1) h1
  ·have:=hp.2 r h1 (h2.trans hv)
   rw [h5,←h3,←h4];exact this
 | ptr id ver i j =>
  simp only [aM]at hp ⊢
  refine⟨h.clock _ hp.1,fun r' i7 hv=>?_⟩
  rcases h.rows id r' i7 with h1 | ⟨r,h1,h2,h3,h4,h5⟩
  ·exact absurd (show c.used r'.ver by rw [hv];exact hp.1) h1
  ·have:=hp.2 r h1 (h2.trans hv)
   rw [h5,←h3];exact this
 | _=>simp only [aM]at hp ⊢;exact cG.mono h.S h.w _ _ hp
theorem aF.o6{c c':Cx}(h:oF c c'):∀(p:PV) (v:Value),aF c p v→aF c' p v:=by
 intro p v hp
 cases p with
 | ag l=>obtain⟨vs,h1,h2⟩:=hp;exact⟨vs,h1,h2.mono (aM.o6 h)⟩
 | _=>simp only [aF]at hp ⊢;exact aM.o6 h _ _ hp
def bL:PV→Bool
 | .undef=>false
 | .own .. => false
 | .ptr .. => false
 | _=>true
def eR:PV→Bool
 | .ag l=>l.all bL
 | p=>bL p
theorem aM.rep{c:Cx}{p:PV}{v:Value}(h:aM c p v)(hp:bL p=true):cG c.S c.w p v:=by
 cases p<;>simp_all [bL,aM]
theorem aM.gB{c:Cx}{p:PV}{v:Value}(h:cG c.S c.w p v):aM c p v:=by
 cases p<;>simp_all [aM,cG]
theorem aF.rep{c:Cx}{p:PV}{v:Value}(h:aF c p v)(hp:eR p=true):cG c.S c.w p v:=by
 cases p with
 | ag l =>
  obtain⟨vs,h1,h2⟩:=h
  simp only [cG]
  refine⟨vs,h1,b5.2 (a6.cO h2.length fun k a b ha hb=>?_)⟩
  obtain⟨b',wS,hr⟩:=h2.get ha
  rw [hb]at wS;cases wS
  exact hr.rep (List.all_eq_true.1 hp a (List.mem_of_getElem? ha))
 | _=>simp only [aF]at h;exact aM.rep h hp
theorem aF.gB{c:Cx}{p:PV}{v:Value}(h:cG c.S c.w p v):aF c p v:=by
 cases p with
 | ag l =>
  simp only [cG]at h
  obtain⟨vs,h1,h2⟩:=h
  exact⟨vs,h1,(b5.1 h2).mono fun _ _=>aM.gB⟩
 | _=>simp only [aF];exact aM.gB h
theorem Inv.grow{w0:World}{S0:cY}{c:Cx}(h:Inv w0 S0 c){w':World}{S':cY}(hb:Below c.w.heap.size c.w w')
  (h1:∀b o,c.S b o→S' b o) (h2:∀b o,S' b o→c.S b o∨(c.w.heap.size≤b∧b<w'.heap.size)) :
  Inv w0 S0 { c with S:=S',w:=w' }∧oF c { c with S:=S',w:=w' }:=by
 have wT:oF c { c with S:=S',w:=w' }:=⟨h1,fun b o hbo=>hb.cell (p:=⟨b,o,none⟩) (h.lt hbo),fun _ h=>h,fun id r hr => .inr ⟨r,hr,rfl,rfl,rfl,rfl⟩⟩
 refine⟨⟨h.below.trans (hb.mono h.below.size),fun b o hh=>h1 b o (h.ext b o hh),fun b o hh=>?_,h.lt0,h.clock,fun id r hr=>?_,h.apart⟩,wT⟩
 ·rcases h2 b o hh with h3 | h3
  ·rcases h.new b o h3 with h4 | h4
   ·exact .inl h4
   ·exact .inr ⟨h4.1,by have:=hb.size;show b<w'.heap.size;omega⟩
  ·exact .inr ⟨by have:=h.below.size;omega,h3.2⟩
 ·obtain⟨⟨xs,g1,g2,g3⟩,hlen,hnS,gZ⟩:=h.row id r hr
  refine⟨⟨xs,g1.kept (row:=none) ⟨hb.os,hb.tape,hb.output,hb.size,fun k hk _=>hb.block k hk⟩ (by cases (c.β id).ownBlock<;>simp),g2.mono (aM.o6 wT),g3⟩,hlen,fun g o hg hS=>?_,gZ⟩
  rcases h2 g o hS with h3 | h3
  ·exact hnS g o hg h3
  ·have:=(g1.lt g hg).2;omega
inductive TI where
 | int (k:IntKind)
 | bool
 | str
 | slice (e:TypeId) (n b:Nat) (z:List PV)
 | struct (fs:List (Nat × Nat × Bool)) (z:List PV)
 | arr (e:TypeId) (k n:Nat) (z:List PV)
 | tV
 | fnT
 | other
def gC:Value→PV
 | .bool b => .bool b
 | .int k n => .int k n
 | .string s => .str s
 | .slice none 0 0 => .nil
 | .func (.func f) ⟨[]⟩ ⟨[]⟩ => .fn f []
 | .pointer none => .iN
 | _ => .undef
def kL:Value→PV
 | .agg cs => .ag (cs.toList.map gC)
 | v=>gC v
def TI.zero:TI→List PV
 | .int k=>[.int k 0]
 | .bool=>[.bool false]
 | .str=>[.str ⟨#[]⟩]
 | .slice _ _ _ _=>[.nil]
 | .struct _ z=>z
 | .arr _ _ _ z=>z
 | .tV=>[.iN]
 | .fnT=>[.undef]
 | .other=>[]
def TI.agg:TI→Bool
 | .struct _ _=>true
 | .arr _ _ _ _=>true
 | _=>false
def TI.size(t:TI):Nat:=t.zero.length
def TI.known:TI→Bool
 | .other=>false
 | _=>true
def H9:Option TypeDesc→Bool
 | some (.struct _)=>true
 | some (.array _ _)=>true
 | _=>false
def mJ(P:Program)(t:TypeId):Bool:=H9 (P.underlying t)
structure jG(P:Program)(t:TypeId)(n:Nat)(z:List PV):Prop where
 ok:∃i v,P.info? t=some i∧i.zero=some v∧i.size=n∧v.cells.toList.map gC=z∧v.cells.all (·.oneCell')=true
 len:z.length=n
 pos:0<n
structure j9(P:Program)(f:Field)(x:Nat × Nat × Bool):Prop where
 off:f.offset=x.1
 size:∃i,P.info? f.type=some i∧i.size=x.2.1
 pos:0<x.2.1
 agg:mJ P f.type=x.2.2
 und:∃d,P.underlying f.type=some d
def abP:Option TypeDesc→Bool
 | some (.pointer _)=>true
 | _=>false
def fnD:Option TypeDesc→Bool
 | some (.func _ _ _)=>true
 | _=>false
theorem pT{d:Option TypeDesc}(h:abP d=true):∃e,d=some (.pointer e):=by
 unfold abP at h
 split at h
 ·exact⟨_,rfl⟩
 ·cases h
theorem IA{d:Option TypeDesc}(h:fnD d=true):∃a b c,d=some (.func a b c):=by
 unfold fnD at h
 split at h
 ·exact⟨_,_,_,rfl⟩
 ·cases h
def bM(P:Program)(t:TypeId):TI→Prop
 | .int k=>P.underlying t=some (.int k)∧jG P t 1 [.int k 0]
 | .bool=>P.underlying t=some .bool∧jG P t 1 [.bool false]
 | .str=>P.underlying t=some .string∧jG P t 1 [.str ⟨#[]⟩]
 | .slice e n b z=>P.underlying t=some (.slice e)∧jG P t 1 [.nil]∧jG P e n z ∧ ∃i,P.info? e=some i∧i.bytes=b
 | .struct fs z=>(∃fields:Array Field,P.underlying t=some (.struct fields)∧a6 (j9 P) fields.toList fs)∧jG P t z.length z
 | .arr e k n z=>P.underlying t=some (.array k e)∧jG P t z.length z ∧ ∃i,P.info? e=some i∧i.size=n
 | .tV=>abP (P.underlying t)=true∧jG P t 1 [.iN]
 | .fnT=>fnD (P.underlying t)=true∧jG P t 1 [.undef]
 | .other=>True
structure Env where
 P:Program
 ty:TypeId→TI
 ok:∀t,bM P t (ty t)
 mixed:P.follows .mixedOrders=true
 writes:FuncId→Bool
theorem bM.zero{P:Program}{t:TypeId}{ti:TI}(h:bM P t ti)(hk:ti.known=true):jG P t ti.size ti.zero:=by
 cases ti with
 | other=>simp [TI.known]at hk
 | struct fs z=>exact h.2
 | slice e n b z=>exact h.2.1
 | arr e k n z=>exact h.2.1
 | _=>exact h.2
theorem bM.ahg{P:Program}{t:TypeId}{ti:TI}(h:bM P t ti)(hk:ti.known=true):mJ P t=ti.agg:=by
 unfold mJ
 cases ti with
 | other=>simp [TI.known]at hk
 | struct fs z=>obtain⟨⟨f,h1,_⟩,_⟩:=h;rw [h1];rfl
 | slice e n b z=>rw [h.1];rfl
 | arr e k n z=>rw [h.1];rfl
 | int k=>rw [h.1];rfl
 | bool=>rw [h.1];rfl
 | str=>rw [h.1];rfl
 | tV=>obtain⟨e,he⟩:=pT h.1;rw [he];rfl
 | fnT=>obtain⟨a,b,c,he⟩:=IA h.1;rw [he];rfl
theorem bM.und{P:Program}{t:TypeId}{ti:TI}(h:bM P t ti)(hk:ti.known=true):∃d,P.underlying t=some d:=by
 cases ti with
 | other=>simp [TI.known]at hk
 | struct fs z=>obtain⟨⟨f,h1,_⟩,_⟩:=h;exact⟨_,h1⟩
 | slice e n b z=>exact⟨_,h.1⟩
 | arr e k n z=>exact⟨_,h.1⟩
 | int k=>exact⟨_,h.1⟩
 | bool=>exact⟨_,h.1⟩
 | str=>exact⟨_,h.1⟩
 | tV=>obtain⟨e,he⟩:=pT h.1;exact⟨_,he⟩
 | fnT=>obtain⟨a,b,c,he⟩:=IA h.1;exact⟨_,he⟩
section runs
variable {P:Program} {w:World}
theorem jX{t:TypeId}{d:TypeDesc}(h:P.underlying t=some d):(isAgg t).run P w = .ok (mJ P t) w:=by
 unfold mJ
 simp only [isAgg,Sem.run_bind,run_underlying h,Result.andThen_ok,h]
 cases d<;>rfl
theorem cC{t:TypeId}{i:TypeInfo}(h:P.info? t=some i):(Go.sizeOf t).run P w = .ok i.size w:=by simp [Go.sizeOf,typeInfo,h]
end runs
structure PS where
 f:Nat→PV
 rows:Rows
 clock:Nat
def put(f:Nat→PV)(d:Option Tmp)(v:PV):Nat→PV:=
 match d with
 | some d=>fun j=>if j=d then v else f j
 | none=>f
def PS.put(σ:PS)(d:Option Tmp)(v:PV):PS:={ σ with f:=Pm.put σ.f d v }
def aN(f:Nat→PV):Operand→PV
 | .tmp t=>f t
 | .const v=>kL v
 | .func g => .fn g []
 | .global _ => .undef
def fz(rows:Rows):PV→PV
 | .own id ver off len =>
  match rows id with
  | some r=>if r.ver=ver then .sl ((r.els.drop off).take len)else .undef
  | none => .undef
 | .ptr id ver i j =>
  match rows id with
  | some r=>if r.ver=ver then .rd ((r.els.getD i []).drop j)else .undef
  | none => .undef
 | .nil => .sl []
 | .fX l => .sl l
 | p=>p
def pz(rows:Rows):PV→PV
 | .ag l => .ag (l.map (fz rows))
 | p=>fz rows p
def aS:PV→List Nat
 | .own id _ _ _=>[id]
 | .ptr id _ _ _=>[id]
 | _=>[]
def cW:PV→List Nat
 | .ag l=>l.flatMap aS
 | p=>aS p
def aZ(P:Program)(f:FuncId)(args:List PV)(r:PV):Prop:=
 (∃fn c,P.funcs[f]? = some fn∧fn.body=some c∧(fn.name == "runtime.NumGoroutine")=false) ∧
 ∀(w:World) (S:cY) (vs:List Value),(∀b o,S b o→b<w.heap.size)→a7 S w args vs →
  Calls P f vs.toArray w fun e w'=>∃v,e = .returned v∧Below w.heap.size w w' ∧
   ∃S':cY,(∀b o,S b o→S' b o)∧(∀b o,S' b o→S b o∨(w.heap.size≤b∧b<w'.heap.size))∧cG S' w' r v
def mK(k:IntKind)(a b:Int):Int:=k.wrap (((BitVec.ofInt k.bits a) ||| (BitVec.ofInt k.bits b)).toNat:Int)
def OH(k:IntKind)(a b:Int):Int:=k.wrap (((BitVec.ofInt k.bits a) &&& (BitVec.ofInt k.bits b)).toNat:Int)
def iQ:List PV→List Int
 | .int _ n::r=>n::iQ r
 | _=>[]
def allI:List PV→Bool
 | []=>true
 | .int .i64 _::r=>allI r
 | _=>false
def iV(n:Int):Value:=.int .i64 n
structure OI(P:Program)(t:TypeId)(n:Nat):Prop where
 run:∀(w:World) (xs ys:List Int),xs.length=n→ys.length=n→(Op.equal t (.agg (xs.map iV).toArray) (.agg (ys.map iV).toArray)).run P w = .ok (decide (xs=ys)) w
 guard:P.eqGuardType P.depth t=false
def yZ(E:Env)(op:BinOp)(t:TypeId)(x y v:PV):Prop:=
 match x,y with
 | .ag a, .ag b =>
  match op with
  | .eql=>(OI E.P t a.length∧allI a=true∧allI b=true∧b.length=a.length)∧v = .bool (decide (iQ a=iQ b))
  | .neq=>(OI E.P t a.length∧allI a=true∧allI b=true∧b.length=a.length)∧v = .bool (!decide (iQ a=iQ b))
  | _=>False
 | .int k a, .int k2 b =>
  match op with
  | .add=>k=k2∧v = .int k (k.wrap (a+b))
  | .sub=>k=k2∧v = .int k (k.wrap (a-b))
  | .mul=>k=k2∧v = .int k (k.wrap (a*b))
  | .quo=>k=k2∧b≠0∧v = .int k (k.wrap (a.tdiv b))
  | .rem=>k=k2∧b≠0∧v = .int k (a.tmod b)
  | .shl=>0≤b∧v = .int k (k.wrap (a*2^(min b.toNat k.bits)))
  | .shr=>0≤b∧v = .int k (a.fdiv (2^(min b.toNat k.bits)))
  | .or=>k=k2∧v = .int k (mK k a b)
  | .and=>k=k2∧v = .int k (OH k a b)
  | .eql=>k=k2∧v = .bool (a==b)
  | .neq=>k=k2∧v = .bool (a != b)
  | .lss=>k=k2∧v = .bool (decide (a<b))
  | .leq=>k=k2∧v = .bool (decide (a≤b))
  | .gtr=>k=k2∧v = .bool (decide (b<a))
  | .geq=>k=k2∧v = .bool (decide (b≤a))
  | _=>False
 | .bool a, .bool b =>
  match op with
  | .eql=>E.ty t = .bool∧v = .bool (a==b)
  | .neq=>E.ty t = .bool∧v = .bool (a != b)
  | _=>False
 | .iN, .iN =>
  match op with
  | .eql=>E.ty t = .tV∧v = .bool true
  | .neq=>E.ty t = .tV∧v = .bool false
  | _=>False
 | .rd _, .iN =>
  match op with
  | .eql=>E.ty t = .tV∧v = .bool false
  | .neq=>E.ty t = .tV∧v = .bool true
  | _=>False
 | _,_=>False
def oK(E:Env)(t:TypeId)(rows:Rows)(p v:PV):Prop:=
 (E.ty t).known=true ∧
 match p with
 | .rd l=>if (E.ty t).agg=true then(E.ty t).size≤l.length∧v = .ag (l.take (E.ty t).size)else l[0]? = some v
 | .ptr id ver i j=>∃r,rows id=some r∧r.ver=ver ∧ ∃el,r.els[i]? = some el ∧
   (if (E.ty t).agg=true then j+(E.ty t).size≤el.length∧v = .ag ((el.drop j).take (E.ty t).size)else el[j]? = some v)
 | _=>False
def o7(E:Env)(t:TypeId)(i:Nat)(x v:PV):Prop:=
 match E.ty t with
 | .struct fs _=>∃o n b,fs[i]? = some (o,n,b) ∧
  match x with
  | .ag l=>if b=true then v = .ag ((l.drop o).take n)else l[o]? = some v
  | _=>False
 | _=>False
def dY(E:Env)(t:TypeId)(rows:Rows)(i:Nat)(x v:PV):Prop:=
 match E.ty t with
 | .struct fs _=>∃o n b,fs[i]? = some (o,n,b) ∧
  match x with
  | .rd l=>o≤l.length∧v = .rd (l.drop o)
  | .ptr id ver a j=>(∃r,rows id=some r∧r.ver=ver)∧v = .ptr id ver a (j+o)
  | _=>False
 | _=>False
def dZ(E:Env)(t:TypeId)(rows:Rows)(x ix v:PV):Prop:=
 match E.ty t with
 | .slice _ n _ _ =>
  match ix with
  | .int _ k=>0≤k ∧
   match x with
   | .sl l=>∃el,l[k.toNat]? = some el∧(∀e∈l,e.length=n)∧v = .rd el
   | .fX l=>∃el,l[k.toNat]? = some el∧(∀e∈l,e.length=n)∧v = .rd el
   | .own id ver off len=>∃r,rows id=some r∧r.ver=ver∧r.size=n∧k.toNat<len∧v = .ptr id ver (off+k.toNat) 0
   | _=>False
  | _=>False
 | .arr _ m n _ =>
  match ix with
  | .int _ k=>(0≤k∧k.toNat<m) ∧
   match x with
   | .rd l=>k.toNat*n≤l.length∧v = .rd (l.drop (k.toNat*n))
   | .ptr id ver a j=>(∃r,rows id=some r∧r.ver=ver)∧v = .ptr id ver a (j+k.toNat*n)
   | _=>False
  | _=>False
 | _=>False
def pS(d:Nat):Option PV→Nat→Prop
 | none,n=>n=d
 | some (.int _ k),n=>0≤k∧n=k.toNat
 | some _,_=>False
def FA(l:List (List PV))(a b:Nat)(hi mx:Option PV)(v:PV):Prop:=
 match mx with
 | none=>v = .sl ((l.take b).drop a)
 | some m=>∃c,pS 0 (some m) c∧b=c∧hi.isSome=true∧v = .fX ((l.take b).drop a)
def kM(E:Env)(t:TypeId)(rows:Rows)(x:PV)(lo hi mx:Option PV)(v:PV):Prop:=
 match E.ty t with
 | .slice _ n _ _ =>
  match x with
  | .nil=>∃a b,pS 0 lo a∧pS 0 hi b∧a=0∧b=0∧mx.isNone=true∧v = .nil
  | .sl l=>∃a b,pS 0 lo a∧pS l.length hi b∧a≤b∧b≤l.length∧(∀e∈l,e.length=n) ∧
   FA l a b hi mx v
  | .fX l=>∃a b,pS 0 lo a∧pS l.length hi b∧a≤b∧b≤l.length∧(∀e∈l,e.length=n) ∧
   FA l a b hi mx v
  | .own id ver off len=>∃r,rows id=some r∧r.ver=ver∧r.size=n ∧ ∃a b,pS 0 lo a∧pS len hi b∧a≤b∧b≤len∧mx.isNone=true∧v = .own id ver (off+a) (b-a)
  | _=>False
 | _=>False
def KQ(rows:Rows)(x:PV)(n:Nat):Prop:=
 match x with
 | .nil=>n=0
 | .sl l=>n=l.length
 | .fX l=>n=l.length
 | .own id ver _ len=>(∃r,rows id=some r∧r.ver=ver)∧n=len
 | _=>False
def dM:PV→Option (List PV)
 | .ag l=>some l
 | .bool b=>some [.bool b]
 | .int k n=>some [.int k n]
 | .str s=>some [.str s]
 | .iN=>some [.iN]
 | .nil=>some [.nil]
 | .sl l=>some [.sl l]
 | .fX l=>some [.fX l]
 | .rd l=>some [.rd l]
 | .fn f l=>some [.fn f l]
 | _=>none
def oL(fs:List (Nat × Nat × Bool)):List (Nat × PV)→List PV→Option (List PV)
 | [],z=>some z
 | (i,p)::ps,z =>
  match fs[i]?,dM p with
  | some (o,n,_),some l=>if l.length=n∧o+n≤z.length then oL fs ps (z.take o++l++z.drop (o+n))else none
  | _,_=>none
def ZT(op:UnOp)(x v:PV):Prop:=
 match op,x with
 | .not, .bool b=>v = .bool (!b)
 | .neg, .int k n=>v = .int k (k.wrap (0-n))
 | _,_=>False
def oM(s d:TI)(x v:PV):Prop:=
 match s,d,x with
 | .int _, .int k, .int _ n=>v = .int k (k.wrap n)
 | _,_,_=>False
def FB(i:Nat)(x v:PV):Prop:=
 match x with
 | .eQ l=>l[i]? = some v
 | _=>False
def FC(k n:Nat):List (Nat × Nat × Bool):=(List.range k).map fun i=>(i*n,n,false)
def mL(t:TI)(parts:List (Nat × PV))(v:PV):Prop:=
 match t with
 | .struct fs z=>∃l,oL fs parts z=some l∧v = .ag l
 | .arr _ k n z=>∃l,oL (FC k n) parts z=some l∧v = .ag l
 | _=>False
def o8(E:Env)(t:TI)(x ix v:PV):Prop:=
 match t,x,ix with
 | .arr e m n _, .ag l, .int _ k=>((E.ty e).known=true∧(E.ty e).agg=false∧n=1∧(0≤k∧k.toNat<m)∧k.toNat<l.length)∧v=l.getD k.toNat .undef
 | .str, .str s, .int _ k=>0≤k ∧ ∃b,s[k.toNat]? = some b∧v = .int .u8 b.toNat
 | _,_,_=>False
def rT(t:TI)(rows:Rows)(x v:PV):Prop:=
 match t with
 | .slice _ _ _ _=>∃n,KQ rows x n∧v = .int .i64 n
 | _=>False
def FD(x y v:PV):Prop:=
 match x,y with
 | .int k a, .int _ b=>v = .int k (if b>a then b else a)
 | _,_=>False
def FE(x y v:PV):Prop:=
 match x,y with
 | .int k a, .int _ b=>v = .int k (if b<a then b else a)
 | _,_=>False
def wU(rows:Rows)(x v:PV):Prop:=
 match x with
 | .rd l=>v = .rd l
 | .ptr id ver i j=>(∃r,rows id=some r∧r.ver=ver)∧v = .ptr id ver i j
 | _=>False
def yv(E:Env)(op:Op)(ρ:Operand→PV)(rows:Rows)(v:PV):Prop:=
 match op with
 | .move x=>v=ρ x
 | .assign x=>v=ρ x
 | .pick c a b=>∃t,ρ c = .bool t∧v=if t=true then ρ a else ρ b
 | .binOp op t x y _=>yZ E op t (ρ x) (ρ y) v
 | .unOp op _ x=>ZT op (ρ x) v
 | .convert s d x=>oM (E.ty s) (E.ty d) (ρ x) v
 | .extract x i=>FB i (ρ x) v
 | .load t p=>oK E t rows (ρ p) v
 | .field t x i=>o7 E t i (ρ x) v
 | .fieldAddr t x i=>dY E t rows i (ρ x) v
 | .indexAddr t x ix=>dZ E t rows (ρ x) (ρ ix) v
 | .slice t x lo hi mx=>kM E t rows (ρ x) (lo.map ρ) (hi.map ρ) (mx.map ρ) v
 | .build t parts=>mL (E.ty t) (parts.toList.map fun x=>(x.1,ρ x.2)) v
 | .index t x ix=>o8 E (E.ty t) (ρ x) (ρ ix) v
 | .makeFunc (.func f) ⟨[]⟩ b8=>(b8.toList.map fun x=>ρ x).all eR=true∧v = .fn f (b8.toList.map fun x=>ρ x)
 | .call { callee:=.builtin .len,args:=⟨[x]⟩,argTypes:=⟨[t]⟩ }=>rT (E.ty t) rows (ρ x) v
 | .call { callee:=.builtin .max,args:=⟨[x,y]⟩,argTypes:=_ }=>FD (ρ x) (ρ y) v
 | .call { callee:=.builtin .min,args:=⟨[x,y]⟩,argTypes:=_ }=>FE (ρ x) (ρ y) v
 | .nilCheck x=>wU rows (ρ x) v
 | _=>False
theorem iU{c:Cx}:∀v:Value,aM c (gC v) v:=by
 intro v
 unfold gC
 split<;>first
  | (simp [aM,cG];done)
  | (simp only [aM,cG];exact⟨[],rfl,by simp [a7]⟩)
theorem FF{c:Cx}(v:Value):aF c (kL v) v:=by
 unfold kL
 split
 ·rename_i cs
  simp only [aF]
  refine⟨cs.toList,by simp,a6.cO (by simp) fun k a b ha hb=>?_⟩
  simp at ha
  obtain⟨u,hu,rfl⟩:=ha
  have:cs.toList[k]? = some u:=by simpa using hu
  rw [this]at hb;cases hb
  exact iU _
 ·rename_i h
  have h1:=iU (c:=c) v
  revert h1
  unfold gC
  split<;>simp [aF]
theorem jN{c:Cx}{f:Nat→PV}{a:Act}(h:∀s,aF c (f s) (a.tmps.getD s undef))(x:Operand):aF c (aN f x) (a.eval x):=by
 cases x with
 | tmp t=>exact h t
 | const v=>exact FF v
 | global g=>simp [aN,aF,aM]
 | func g=>simp only [aN,aF,aM,cG,Act.eval];exact⟨[],rfl,by simp [a7]⟩
section
variable {E:Env} {c:Cx}
theorem bS{k:IntKind}{n:Int}{v:Value}:aF c (.int k n) v↔v = .int k n:=by simp [aF,aM,cG]
theorem cJ{b:Bool}{v:Value}:aF c (.bool b) v↔v = .bool b:=by simp [aF,aM,cG]
theorem run_equalIn_bool{P:Program}{w:World}{t:TypeId}(h:P.underlying t=some .bool)(d:Nat)(a b:Bool) :
  (Op.equalIn (d+1) t (.bool a) (.bool b)).run P w = .ok (a==b) w:=by simp [Op.equalIn,run_underlying h]
theorem run_equal_bool{P:Program}{w:World}{t:TypeId}(h:P.underlying t=some .bool)(a b:Bool) :
  (Op.equal t (.bool a) (.bool b)).run P w = .ok (a==b) w:=run_equalIn_bool h 9999 a b
theorem run_eql_bool{P:Program}{w:World}{t:TypeId}(h:P.underlying t=some .bool)(a b:Bool) :
  (binOp .eql t (.bool a) (.bool b)).run P w = .ok (.bool (a==b)) w:=by
 show(do pure (Value.bool (←Op.equal t (.bool a) (.bool b))):Sem Value).run P w=_
 simp [run_equal_bool h]
theorem run_neq_bool{P:Program}{w:World}{t:TypeId}(h:P.underlying t=some .bool)(a b:Bool) :
  (binOp .neq t (.bool a) (.bool b)).run P w = .ok (.bool (a != b)) w:=by
 show(do pure (Value.bool (!(←Op.equal t (.bool a) (.bool b)))):Sem Value).run P w=_
 simp [run_equal_bool h];cases a<;>cases b<;>rfl
theorem sY{P:Program}{w:World}{t e:TypeId}(h:P.underlying t=some (.pointer e))(d:Nat):(Op.equalIn (d+1) t (.pointer none) (.pointer none)).run P w = .ok true w:=by simp [Op.equalIn,run_underlying h]
theorem rD{P:Program}{w:World}{t e:TypeId}{a:Addr}(h:P.underlying t=some (.pointer e))(d:Nat):(Op.equalIn (d+1) t (.pointer (some a)) (.pointer none)).run P w = .ok false w:=by simp [Op.equalIn,run_underlying h]
theorem oN{P:Program}{w:World}{t e:TypeId}(h:P.underlying t=some (.pointer e)):(Op.equal t (.pointer none) (.pointer none)).run P w = .ok true w:=by
 exact sY h 9999
theorem mM{P:Program}{w:World}{t e:TypeId}{a:Addr}(h:P.underlying t=some (.pointer e)):(Op.equal t (.pointer (some a)) (.pointer none)).run P w = .ok false w:=by
 exact rD h 9999
theorem rU{P:Program}{w:World}{t:TypeId}{x:Option Addr}{b:Bool}(h:(Op.equal t (.pointer x) (.pointer none)).run P w = .ok b w):(binOp .eql t (.pointer x) (.pointer none)).run P w = .ok (.bool b) w:=by
 show(do pure (Value.bool (←Op.equal t (.pointer x) (.pointer none))):Sem Value).run P w=_
 simp [h]
theorem rV{P:Program}{w:World}{t:TypeId}{x:Option Addr}{b:Bool}(h:(Op.equal t (.pointer x) (.pointer none)).run P w = .ok b w):(binOp .neq t (.pointer x) (.pointer none)).run P w = .ok (.bool (!b)) w:=by
 show(do pure (Value.bool (!(←Op.equal t (.pointer x) (.pointer none)))):Sem Value).run P w=_
 simp [h]
theorem BN{v:Value}:aF c .iN v↔v = .pointer none:=by simp [aF,aM,cG]
theorem tW:∀ {l:List PV} {vs:List Value},allI l=true→a6 (aM c) l vs→vs=(iQ l).map iV∧(iQ l).length=l.length
 | [],[],_,_=>⟨rfl,rfl⟩
 | [],_::_,_,h=>h.elim
 | p::l,[],_,h=>h.elim
 | p::l,v::vs,ha,h=>by
  unfold allI at ha
  split at ha
  ·rename_i heq;cases heq
  ·rename_i n r heq
   simp only [List.cons.injEq]at heq
   obtain⟨rfl,rfl⟩:=heq
   obtain⟨h1,h2⟩:=tW ha h.2
   have hv:v = .int .i64 n:=by simpa [aM,cG]using h.1
   exact⟨by rw [h1,hv];rfl,by simp [iQ,h2]⟩
  ·cases ha
theorem IB{op:BinOp}{t:TypeId}{ox oy:Operand}{a b:List PV}{vx vy:Value}(hx:aF c (.ag a) vx)(hy:aF c (.ag b) vy)(h:OI E.P t a.length∧allI a=true∧allI b=true∧b.length=a.length) :
  (do eqGuard .eql t ox oy vx vy;binOp .eql t vx vy:Sem Value).run E.P c.w = .ok (.bool (decide (iQ a=iQ b))) c.w∧(do eqGuard .neq t ox oy vx vy;binOp .neq t vx vy:Sem Value).run E.P c.w = .ok (.bool (!decide (iQ a=iQ b))) c.w:=by
 obtain⟨h1,h2,h3,h4⟩:=h
 obtain⟨xs,rfl,g1⟩:=hx
 obtain⟨ys,rfl,g2⟩:=hy
 obtain⟨rfl,q1⟩:=tW h2 g1
 obtain⟨rfl,q2⟩:=tW h3 g2
 have hr:=h1.run c.w (iQ a) (iQ b) q1 (by rw [q2,h4])
 have hg:∀op,(eqGuard op t ox oy (.agg ((iQ a).map iV).toArray) (.agg ((iQ b).map iV).toArray)).run E.P c.w = .ok () c.w:=by
  intro op
  unfold eqGuard
  cases op<;>simp [h1.guard]
 constructor
 ·rw [Sem.run_bind,hg,Result.andThen_ok]
  show(do pure (Value.bool (←Op.equal t _ _)):Sem Value).run E.P c.w=_
  simp [hr]
 ·rw [Sem.run_bind,hg,Result.andThen_ok]
  show(do pure (Value.bool (!(←Op.equal t _ _))):Sem Value).run E.P c.w=_
  simp [hr]
theorem OJ{op:BinOp}{t:TypeId}{ox oy:Operand}{x y v:PV}{vx vy:Value}(hx:aF c x vx)(hy:aF c y vy)(h:yZ E op t x y v) :
  ∃v',(do eqGuard op t ox oy vx vy;binOp op t vx vy:Sem Value).run E.P c.w = .ok v' c.w∧aF c v v':=by
 unfold yZ at h
 split at h
 ·cases op<;>simp only at h
  case eql=>obtain⟨h1,rfl⟩:=h;exact⟨_,(IB (op:=.eql) hx hy h1).1,cJ.2 rfl⟩
  case neq=>obtain⟨h1,rfl⟩:=h;exact⟨_,(IB (op:=.eql) hx hy h1).2,cJ.2 rfl⟩
  all_goals exact False.elim h
 ·rename_i k a k2 b
  rw [bS]at hx hy
  subst hx hy
  cases op<;>simp only at h
  case shl=>obtain⟨h1,rfl⟩:=h;exact⟨_,by simp [eqGuard,binOp,Op.shift,show ¬b<0 by omega],bS.2 rfl⟩
  case shr=>obtain⟨h1,rfl⟩:=h;exact⟨_,by simp [eqGuard,binOp,Op.shift,show ¬b<0 by omega],bS.2 rfl⟩
  case quo=>obtain⟨rfl,h1,rfl⟩:=h;exact⟨_,by simp [eqGuard,binOp,Op.intDiv,h1],bS.2 rfl⟩
  case rem=>obtain⟨rfl,h1,rfl⟩:=h;exact⟨_,by simp [eqGuard,binOp,Op.intDiv,h1],bS.2 rfl⟩
  case add=>obtain⟨rfl,rfl⟩:=h;exact⟨_,by simp [eqGuard,binOp,Op.intArith],bS.2 rfl⟩
  case sub=>obtain⟨rfl,rfl⟩:=h;exact⟨_,by simp [eqGuard,binOp,Op.intArith],bS.2 rfl⟩
  case mul=>obtain⟨rfl,rfl⟩:=h;exact⟨_,by simp [eqGuard,binOp,Op.intArith],bS.2 rfl⟩
  case or=>obtain⟨rfl,rfl⟩:=h;exact⟨_,by simp [eqGuard,binOp,Op.intBits,mK],bS.2 rfl⟩
  case and=>obtain⟨rfl,rfl⟩:=h;exact⟨_,by simp [eqGuard,binOp,Op.intBits,OH],bS.2 rfl⟩
  case eql=>obtain⟨rfl,rfl⟩:=h;exact⟨_,by simp [eqGuard,binOp,Op.intCmp],cJ.2 rfl⟩
  case neq=>obtain⟨rfl,rfl⟩:=h;exact⟨_,by simp [eqGuard,binOp,Op.intCmp],cJ.2 rfl⟩
  case lss=>obtain⟨rfl,rfl⟩:=h;exact⟨_,by simp [eqGuard,binOp,Op.intCmp],cJ.2 rfl⟩
  case leq=>obtain⟨rfl,rfl⟩:=h;exact⟨_,by simp [eqGuard,binOp,Op.intCmp],cJ.2 rfl⟩
  case gtr=>obtain⟨rfl,rfl⟩:=h;exact⟨_,by simp [eqGuard,binOp,Op.intCmp],cJ.2 rfl⟩
  case geq=>obtain⟨rfl,rfl⟩:=h;exact⟨_,by simp [eqGuard,binOp,Op.intCmp],cJ.2 rfl⟩
  all_goals exact False.elim h
 ·rename_i a b
  rw [cJ]at hx hy
  subst hx hy
  have hb:E.ty t = .bool→E.P.underlying t=some .bool:=fun he=>by have:=E.ok t;rw [he]at this;exact this.1
  cases op<;>simp only at h
  case eql=>obtain⟨h1,rfl⟩:=h;exact⟨_,by simp [eqGuard,run_eql_bool (hb h1)],cJ.2 rfl⟩
  case neq=>obtain⟨h1,rfl⟩:=h;exact⟨_,by simp [eqGuard,run_neq_bool (hb h1)],cJ.2 rfl⟩
  all_goals exact False.elim h
 ·rw [BN]at hx hy
  subst hx hy
  have hb:E.ty t = .tV → ∃e,E.P.underlying t=some (.pointer e):=fun he=>by have:=E.ok t;rw [he]at this;exact pT this.1
  cases op<;>simp only at h
  case eql=>obtain⟨h1,rfl⟩:=h;obtain⟨e,he⟩:=hb h1;exact⟨_,by simp [eqGuard,rU (oN he)],cJ.2 rfl⟩
  case neq=>obtain⟨h1,rfl⟩:=h;obtain⟨e,he⟩:=hb h1;exact⟨_,by simp [eqGuard,rV (oN he)],cJ.2 rfl⟩
  all_goals exact False.elim h
 ·rw [BN]at hy
  simp only [aF,aM,cG]at hx
  obtain⟨b,o,rfl,_⟩:=hx
  subst hy
  have hb:E.ty t = .tV → ∃e,E.P.underlying t=some (.pointer e):=fun he=>by have:=E.ok t;rw [he]at this;exact pT this.1
  cases op<;>simp only at h
  case eql=>obtain⟨h1,rfl⟩:=h;obtain⟨e,he⟩:=hb h1;exact⟨_,by simp [eqGuard,rU (mM he)],cJ.2 rfl⟩
  case neq=>obtain⟨h1,rfl⟩:=h;obtain⟨e,he⟩:=hb h1;exact⟨_,by simp [eqGuard,rV (mM he)],cJ.2 rfl⟩
  all_goals exact False.elim h
 ·exact False.elim h
theorem fL{S:cY}{w:World}:∀ {l:List PV} {b o:Nat},cI S w b o l → ∀ {k:Nat} {p:PV},l[k]? = some p → ∃v,w.cell? ⟨b,o+k,none⟩=some v∧S b (o+k)∧v.oneCell'=true∧cG S w p v
 | [],_,_,_,_,_,h=>by simp at h
 | q::l,b,o,hr,0,p,h=>by simp at h;subst h;exact hr.1
 | q::l,b,o,hr,k+1,p,h=>by
  have:=fL hr.2 (k:=k) (by simpa using h)
  rw [show o+1+k=o+(k+1)by omega]at this;exact this
theorem gO{S:cY}{w:World}:∀ {l:List PV} {b o:Nat},(∀k p,l[k]? = some p → ∃v,w.cell? ⟨b,o+k,none⟩=some v∧S b (o+k)∧v.oneCell'=true∧cG S w p v)→cI S w b o l
 | [],_,_,_=>trivial
 | q::l,b,o,h=>⟨by simpa using h 0 q (by simp),gO fun k p hp=>by
   have:=h (k+1) p (by simpa using hp)
   rw [show o+(k+1)=o+1+k by omega]at this;exact this⟩
theorem oO{S:cY}{w:World}{l:List PV}{b o:Nat}(h:cI S w b o l)(d:Nat):cI S w b (o+d) (l.drop d):=
 gO fun k p hp=>by
  rw [List.getElem?_drop]at hp
  have:=fL h hp
  rw [show o+(d+k)=o+d+k by omega]at this;exact this
theorem fU(b o k:Nat):(⟨b,o,none⟩:Addr).add k=⟨b,o+k,none⟩:=by unfold Addr.add;split<;>simp_all
theorem gD{S:cY}{w:World}{n:Nat}:∀ {l:List (List PV)} {b o:Nat},dX S w b o l→(∀e∈l,e.length=n) → ∀ {k:Nat} {e:List PV},l[k]? = some e→cI S w b (o+k*n) e
 | [],_,_,_,_,_,_,h=>by simp at h
 | q::l,b,o,hr,_,0,p,h=>by simp at h;subst h;simpa using hr.1
 | q::l,b,o,hr,hn,k+1,p,h=>by
  have:=gD hr.2 (fun e he=>hn e (by simp [he])) (k:=k) (by simpa using h)
  rw [hn q (by simp),show o+n+k*n=o+(k+1)*n by rw [Nat.add_mul];omega]at this;exact this
theorem kT{S:cY}{w:World}{n:Nat}:∀ {l:List (List PV)} {b o:Nat},(∀e∈l,e.length=n)→(∀k e,l[k]? = some e→cI S w b (o+k*n) e)→dX S w b o l
 | [],_,_,_,_=>trivial
 | q::l,b,o,hn,h=>⟨by simpa using h 0 q (by simp),kT (n:=n) (fun e he=>hn e (by simp [he])) fun k e hk=>by
   have:=h (k+1) e (by simpa using hk)
   rw [hn q (by simp),show o+n+k*n=o+(k+1)*n by rw [Nat.add_mul];omega];exact this⟩
theorem tX{P:Program}{w:World}{t:TypeId}{ti:TI}(ht:bM P t ti)(hk:ti.known=true){b o:Nat}{vs:List Value}(hl:vs.length=ti.size)
  (h:∀k v,vs[k]? = some v→w.cell? ⟨b,o+k,none⟩=some v) :
  (Instr.loadAt t (.pointer (some ⟨b,o,none⟩))).run P w = .ok (if ti.agg=true then .agg vs.toArray else vs.getD 0 undef) w:=by
 obtain⟨d,hd⟩:=ht.und hk
 obtain⟨i,z,hi,_,hs,_,_⟩:=(ht.zero hk).ok
 have lF:i.size=vs.length:=by rw [hs,hl]
 simp only [Instr.loadAt,Instr.sureAddr,Sem.run_bind,Sem.run_pure,Result.andThen_ok,loadVar,jX hd,ht.ahg hk]
 by_cases ha:ti.agg=true
 ·simp only [ha,if_true,Sem.run_bind,cC hi,Result.andThen_ok,lF]
  rw [run_loadCells_list (P:=P) w ⟨b,o,none⟩ vs (fun j v hj=>by rw [fU];exact h j v hj)]
  simp
 ·have E2:ti.agg=false:=by simpa using ha
  simp only [E2]
  have h1:vs.length=1:=by
   rw [hl];cases ti<;>simp_all [TI.agg,TI.size,TI.zero,TI.known]
  match vs,h1 with
  | [x],_ =>
   have:=h 0 x (by simp)
   simp [load,Sem.run,show w.cell? ⟨b,o,none⟩=some x by simpa using this]
end
theorem gQ{α:Type}{n:Nat}:∀ {l:List (List α)},(∀e∈l,e.length=n) → ∀ {i:Nat} {e:List α},l[i]? = some e → ∀ {j:Nat} {p:α},e[j]? = some p→l.flatten[i*n+j]? = some p
 | [],_,_,_,h,_,_,_=>by simp at h
 | q::l,hn,0,e,h,j,p,hp=>by
  simp at h;subst h
  have hj:j<q.length:=(List.getElem?_eq_some_iff.1 hp).1
  simp [List.getElem?_append_left hj,hp]
 | q::l,hn,i+1,e,h,j,p,hp=>by
  have:=gQ (l:=l) (n:=n) (fun e he=>hn e (by simp [he])) (i:=i) (by simpa using h) hp
  have hq:q.length=n:=hn q (by simp)
  rw [List.flatten_cons,List.getElem?_append_right (by rw [hq,Nat.add_mul];omega),hq,show(i+1)*n+j-n=i*n+j by rw [Nat.add_mul];omega]
  exact this
section
variable {E:Env} {c:Cx} {w0:World} {S0:cY}
theorem pU(hI:Inv w0 S0 c){id:Nat}{r:Row}(hr:c.rows id=some r){g n cap:Nat}(hβ:c.β id = .slice (some ⟨g,0,none⟩) n cap){i j:Nat}{el:List PV}{p:PV}(hi:r.els[i]? = some el)(hj:el[j]? = some p) :
  ∃v,c.w.cell? ⟨g,i*r.size+j,none⟩=some v∧v.oneCell'=true∧aM c p v:=by
 obtain⟨⟨xs,h1,h2,h3⟩,hlen,_,gZ⟩:=hI.row id r hr
 have hf:=gQ hlen hi hj
 obtain⟨v,hv,eS⟩:=h2.get hf
 have hn:n=r.els.length:=by
  rw [hβ]at h1
  rcases h1.2 with ⟨h,_⟩ | ⟨g',gE,cur,h,_⟩
  ·simp at h
  ·simp at h;exact h.2.1
 rw [hβ]at h1
 subst hn
 have jH:i*r.size+j<r.els.length*r.size:=by
  have:=(List.getElem?_eq_some_iff.1 hv).1
  rw [h1.1]at this;exact this
 exact⟨v,by rw [h1.cellAt _ jH];exact hv,h3 v (List.mem_of_getElem? hv),eS⟩
theorem pV{p:PV}{v:Value}(h:aM c p v):aF c p v:=by
 cases p with
 | ag l=>exact aF.gB (p:=.ag l) (by simpa only [aM]using h)
 | _=>simpa only [aF]using h
theorem xK{t:TypeId}{p v:PV}{vp:Value}(hI:Inv w0 S0 c)(hp:aF c p vp)(h:oK E t c.rows p v) :
  ∃v',(Instr.loadAt t vp).run E.P c.w = .ok v' c.w∧aF c v v':=by
 obtain⟨hk,h⟩:=h
 have key:∀(b o:Nat) (l:List PV),(∀k q,l[k]? = some q → ∃u,c.w.cell? ⟨b,o+k,none⟩=some u∧u.oneCell'=true∧aM c q u) →
   (if (E.ty t).agg=true then(E.ty t).size≤l.length∧v = .ag (l.take (E.ty t).size)else l[0]? = some v) →
   ∃v',(Instr.loadAt t (.pointer (some ⟨b,o,none⟩))).run E.P c.w = .ok v' c.w∧aF c v v':=by
  intro b o l hl hv
  by_cases ha:(E.ty t).agg=true
  ·rw [if_pos ha]at hv
   obtain⟨hn,rfl⟩:=hv
   have:∃vs:List Value,vs.length=(E.ty t).size ∧ ∀k,k<(E.ty t).size → ∀q,l[k]? = some q → ∃u,vs[k]? = some u∧c.w.cell? ⟨b,o+k,none⟩=some u∧aM c q u:=by
    refine⟨(List.range (E.ty t).size).map fun k=>(c.w.cell? ⟨b,o+k,none⟩).getD undef,by simp,fun k hk q hq=>?_⟩
    obtain⟨u,hu,_,hr⟩:=hl k q hq
    exact⟨u,by simp [hk,hu],hu,hr⟩
   obtain⟨vs,FG,BO⟩:=this
   have OL:∀k u,vs[k]? = some u→c.w.cell? ⟨b,o+k,none⟩=some u:=by
    intro k u hu
    have rW:k<(E.ty t).size:=by rw [←FG];exact(List.getElem?_eq_some_iff.1 hu).1
    obtain⟨u',h1,h2,_⟩:=BO k rW l[k] (by simp [List.getElem?_eq_getElem (show k<l.length by omega)])
    rw [hu]at h1;cases h1;exact h2
   refine⟨_,tX (E.ok t) hk FG OL,?_⟩
   rw [if_pos ha]
   refine⟨vs,rfl,a6.cO (by simp [FG];omega) fun k q u hq hu=>?_⟩
   rw [List.getElem?_take]at hq
   split at hq
   ·rename_i rW
    obtain⟨u',h1,_,h3⟩:=BO k rW q hq
    rw [hu]at h1;cases h1;exact h3
   ·cases hq
  ·rw [if_neg ha]at hv
   obtain⟨u,hu,ho,hr⟩:=hl 0 v hv
   have h1:(E.ty t).size=1:=by
    cases hE:E.ty t<;>simp_all [TI.agg,TI.size,TI.zero,TI.known]
   refine⟨_,tX (vs:=[u]) (E.ok t) hk (by simp [h1]) (fun k x hx=>?_),?_⟩
   ·match k with
    | 0=>simp at hx;subst hx;exact hu
    | k+1=>simp at hx
   ·rw [if_neg ha];exact pV hr
 cases p with
 | rd l =>
  simp only [aF,aM,cG]at hp
  obtain⟨b,o,rfl,hc⟩:=hp
  exact key b o l (fun k q hq=>let ⟨u,h1,_,h3,h4⟩:=fL hc hq;⟨u,h1,h3,aM.gB h4⟩) h
 | ptr id ver i j =>
  simp only at h
  obtain⟨r,hr,iO,el,mN,hh⟩:=h
  simp only [aF,aM]at hp
  obtain⟨g,n,cap,hβ,rfl⟩:=hp.2 r hr iO
  refine key g (i*r.size+j) (el.drop j) (fun k q hq=>?_) ?_
  ·rw [List.getElem?_drop]at hq
   have:=pU hI hr hβ mN hq
   rw [show i*r.size+(j+k)=i*r.size+j+k by omega]at this;exact this
  ·split at hh
   ·rename_i ha;rw [if_pos ha];exact⟨by rw [List.length_drop];omega,hh.2⟩
   ·rename_i ha;rw [if_neg ha];simpa using hh
 | _=>exact False.elim h
theorem FH{t:TypeId}{i:Nat}{x v:PV}{vx:Value}(hx:aF c x vx)(h:o7 E t i x v) :
  ∃v',(Instr.field t vx i).run E.P c.w = .ok v' c.w∧aF c v v':=by
 unfold o7 at h
 split at h
 ·rename_i fs z hE
  obtain⟨o,n,b,hf,h⟩:=h
  split at h
  ·rename_i l
   have ht:=E.ok t
   rw [hE]at ht
   obtain⟨⟨fields,hu,ha⟩,_⟩:=ht
   obtain⟨vs,rfl,BO⟩:=hx
   obtain⟨fd,hfd,fD⟩:∃fd,fields[i]? = some fd∧j9 E.P fd (o,n,b):=by
    have hlen:=ha.length
    have hi:i<fields.toList.length:=by rw [hlen];exact(List.getElem?_eq_some_iff.1 hf).1
    obtain⟨y,hy,hyy⟩:=ha.get (k:=i) (a:=fields.toList[i]) (by simp [List.getElem?_eq_getElem hi])
    rw [hf]at hy;cases hy
    exact⟨_,by simp,hyy⟩
   obtain⟨inf,hi1,hi2⟩:=fD.size
   obtain⟨d,hd⟩:=fD.und
   have OM:fd.offset=o:=fD.off
   simp only [Instr.field,Sem.run_bind,run_underlying hu,Result.andThen_ok,hfd,asAgg,Sem.run_pure,part,jX hd,fD.agg]
   by_cases hb:b=true
   ·subst hb
    simp only [if_true]at h
    subst h
    simp only [if_true,Sem.run_bind,cC hi1,Result.andThen_ok,Sem.run_pure,OM,hi2]
    refine⟨_,rfl,(vs.drop o).take n,?_,(BO.drop o).take n⟩
    congr 1
    apply Array.ext'
    simp [List.extract_eq_take_drop]
   ·have wS:b=false:=by simpa using hb
    subst wS
    simp only [Bool.false_eq_true,if_false]at h ⊢
    obtain⟨u,ON,hr⟩:=BO.get h
    refine⟨u,?_,pV hr⟩
    rw [OM]
    simp [ON]
  ·exact False.elim h
 ·exact False.elim h
theorem y3{t:TypeId}{fs:List (Nat × Nat × Bool)}{z:List PV}{i o n:Nat}{b:Bool}(hE:E.ty t = .struct fs z)(hf:fs[i]? = some (o,n,b)) :
  ∃(fields:Array Field) (fd:Field),E.P.underlying t=some (.struct fields)∧fields[i]? = some fd∧j9 E.P fd (o,n,b):=by
 have ht:=E.ok t
 rw [hE]at ht
 obtain⟨⟨fields,hu,ha⟩,_⟩:=ht
 have hlen:=ha.length
 have hi:i<fields.toList.length:=by rw [hlen];exact(List.getElem?_eq_some_iff.1 hf).1
 obtain⟨y,hy,hyy⟩:=ha.get (k:=i) (a:=fields.toList[i]) (by simp [List.getElem?_eq_getElem hi])
 rw [hf]at hy;cases hy
 exact⟨fields,_,hu,by simp,hyy⟩
theorem rX{t:TypeId}{fs:List (Nat × Nat × Bool)}{z:List PV}{i o n:Nat}{b:Bool}(hE:E.ty t = .struct fs z)(hf:fs[i]? = some (o,n,b))(g off:Nat) :
  (Instr.fieldAt t (.pointer (some ⟨g,off,none⟩)) i).run E.P c.w = .ok (.pointer (some ⟨g,off+o,none⟩)) c.w:=by
 obtain⟨fields,fd,hu,hfd,fD⟩:=y3 hE hf
 obtain⟨inf,hi1,hi2⟩:=fD.size
 have gZ:0<n:=fD.pos
 have amW:inf.size=n:=hi2
 have OM:fd.offset=o:=fD.off
 simp only [Instr.fieldAt,Sem.run_bind,run_underlying hu,Result.andThen_ok,hfd,Instr.sureAddr,Sem.run_pure,fieldPlace,cC hi1,amW]
 rw [if_neg (by omega)]
 simp [fU,OM]
theorem tY{t:TypeId}{i:Nat}{x v:PV}{vx:Value}(hx:aF c x vx)(h:dY E t c.rows i x v) :
  ∃v',(Instr.fieldAt t vx i).run E.P c.w = .ok v' c.w∧aF c v v':=by
 unfold dY at h
 split at h
 ·rename_i fs z hE
  obtain⟨o,n,b,hf,h⟩:=h
  split at h
  ·obtain⟨_,rfl⟩:=h
   simp only [aF,aM,cG]at hx
   obtain⟨g,off,rfl,hc⟩:=hx
   exact⟨_,rX hE hf g off,by simp only [aF,aM,cG];exact⟨g,off+o,rfl,oO hc o⟩⟩
  ·obtain⟨⟨r,hr,iO⟩,rfl⟩:=h
   simp only [aF,aM]at hx ⊢
   obtain⟨g,m,cap,hβ,rfl⟩:=hx.2 r hr iO
   refine⟨_,rX hE hf g _,hx.1,fun r' i7 _=>?_⟩
   rw [hr]at i7;cases i7
   exact⟨g,m,cap,hβ,by rw [Nat.add_assoc]⟩
  ·exact False.elim h
 ·exact False.elim h
theorem eA{t e:TypeId}{n b:Nat}{z:List PV}(hE:E.ty t = .slice e n b z) :
  E.P.underlying t=some (.slice e)∧0<n∧z.length=n ∧ ∃i zv,E.P.info? e=some i∧i.zero=some zv∧i.size=n∧i.bytes=b∧zv.cells.toList.map gC=z∧zv.cells.all (·.oneCell')=true:=by
 have ht:=E.ok t
 rw [hE]at ht
 obtain⟨h1,_,h3,i,h4,h5⟩:=ht
 obtain⟨i',v,g1,g2,g3,g4,g5⟩:=h3.ok
 rw [h4]at g1;cases g1
 exact⟨h1,h3.pos,h3.len,i,v,h4,g2,g3,h5,g4,g5⟩
theorem kA{t e:TypeId}{n b:Nat}{z:List PV}(hE:E.ty t = .slice e n b z){g o len cap:Nat}{kk:IntKind}{k:Int}(h0:0≤k)(h1:k.toNat<len) :
  (Instr.indexAt t (.slice (some ⟨g,o,none⟩) len cap) (.int kk k)).run E.P c.w = .ok (.pointer (some ⟨g,o+k.toNat*n,none⟩)) c.w:=by
 obtain⟨hu,hn,_,i,zv,hi,_,hs,_,_,_⟩:=eA hE
 have h2:0≤k∧k<(len:Int):=⟨h0,by omega⟩
 simp [Instr.indexAt,run_underlying hu,asIntOf,h2,cC hi,hs,fU]
theorem xL{t e:TypeId}{m n:Nat}{z:List PV}(hE:E.ty t = .arr e m n z){g o:Nat}{kk:IntKind}{k:Int}(h0:0≤k)(h1:k.toNat<m) :
  (Instr.indexAt t (.pointer (some ⟨g,o,none⟩)) (.int kk k)).run E.P c.w = .ok (.pointer (some ⟨g,o+k.toNat*n,none⟩)) c.w:=by
 have ht:=E.ok t
 rw [hE]at ht
 obtain⟨hu,_,i,hi,hs⟩:=ht
 have h2:0≤k∧k<(m:Int):=⟨h0,by omega⟩
 simp [Instr.indexAt,run_underlying hu,asIntOf,h2,cC hi,hs,fU,Instr.sureAddr]
theorem mO(hI:Inv w0 S0 c){id:Nat}{r:Row}(hr:c.rows id=some r)(wV:0<r.els.length):∃g cap,c.β id = .slice (some ⟨g,0,none⟩) r.els.length cap:=by
 obtain⟨⟨xs,h1,_,_⟩,_⟩:=hI.row id r hr
 rcases h1.2 with ⟨_,h⟩ | ⟨g',gE,cur,h,_⟩
 ·omega
 ·exact⟨g',gE,h⟩
theorem tZ{t:TypeId}{x ix v:PV}{vx vi:Value}(hI:Inv w0 S0 c)(hx:aF c x vx)(hi:aF c ix vi)(h:dZ E t c.rows x ix v) :
  ∃v',(Instr.indexAt t vx vi).run E.P c.w = .ok v' c.w∧aF c v v':=by
 unfold dZ at h
 split at h
 ·rename_i e n b z hE
  split at h
  ·rename_i kk k
   rw [bS]at hi
   subst hi
   obtain⟨h0,h⟩:=h
   split at h
   ·obtain⟨el,mN,hn,rfl⟩:=h
    simp only [aF,aM,cG]at hx ⊢
    obtain⟨a,cap,rfl,_,_,hh⟩:=hx
    have jH:=(List.getElem?_eq_some_iff.1 mN).1
    rcases hh with rfl | ⟨g,o,rfl,hh⟩
    ·simp at mN
    ·exact⟨_,kA hE h0 jH,g,_,rfl,gD hh hn mN⟩
   ·obtain⟨el,mN,hn,rfl⟩:=h
    simp only [aF,aM,cG]at hx ⊢
    obtain⟨a,rfl,_,hh⟩:=hx
    have jH:=(List.getElem?_eq_some_iff.1 mN).1
    rcases hh with rfl | ⟨g,o,rfl,hh⟩
    ·simp at mN
    ·exact⟨_,kA hE h0 jH,g,_,rfl,gD hh hn mN⟩
   ·rename_i id ver off len
    obtain⟨r,hr,iO,lF,jH,rfl⟩:=h
    simp only [aF,aM]at hx ⊢
    obtain⟨OO,hx⟩:=hx
    obtain⟨hle,hx⟩:=hx r hr iO
    rcases hx with ⟨rfl,a,m,cap,hβ,rfl⟩ | ⟨gZ,g,m,cap,a,hβ,hoc,rfl,ha⟩
    ·obtain⟨g,gE,mP⟩:=mO hI hr (by omega)
     rw [hβ]at mP
     simp only [Value.slice.injEq]at mP
     obtain⟨rfl,rfl,rfl⟩:=mP
     refine⟨_,kA hE h0 jH,OO,fun r' i7 _=>?_⟩
     rw [hr]at i7;cases i7
     exact⟨g,_,_,hβ,by rw [←lF];simp⟩
    ·rcases ha with ha | rfl
     ·omega
     ·refine⟨_,kA hE h0 jH,OO,fun r' i7 _=>?_⟩
      rw [hr]at i7;cases i7
      exact⟨g,m,cap,hβ,by rw [←lF,Nat.add_mul,Nat.add_zero]⟩
   ·exact False.elim h
  ·exact False.elim h
 ·rename_i e m n z hE
  split at h
  ·rename_i kk k
   rw [bS]at hi
   subst hi
   obtain⟨⟨h0,h1⟩,h⟩:=h
   split at h
   ·obtain⟨_,rfl⟩:=h
    simp only [aF,aM,cG]at hx
    obtain⟨g,off,rfl,hc⟩:=hx
    exact⟨_,xL hE h0 h1,by simp only [aF,aM,cG];exact⟨g,off+k.toNat*n,rfl,oO hc _⟩⟩
   ·obtain⟨⟨r,hr,iO⟩,rfl⟩:=h
    simp only [aF,aM]at hx ⊢
    obtain⟨g,m',cap,hβ,rfl⟩:=hx.2 r hr iO
    refine⟨_,xL hE h0 h1,hx.1,fun r' i7 _=>?_⟩
    rw [hr]at i7;cases i7
    exact⟨g,m',cap,hβ,by rw [Nat.add_assoc]⟩
   ·exact False.elim h
  ·exact False.elim h
 ·exact False.elim h
theorem y4{P:Program}{w:World}{kk:IntKind}{k:Int}{y:Nat}{code:BoundsCode}(h0:0≤k)(h1:k≤y) :
  (Instr.sliceBound (.int kk k) y code).run P w = .ok k.toNat w:=by
 have h2:0≤k∧k≤(y:Int):=⟨h0,h1⟩
 simp [Instr.sliceBound,asIntOf,h2]
theorem FI{P:Program}{w:World}{len cap:Nat}{lo hi mx:Option PV}{US UT UU:Option Value}{a b m:Nat}
  (BP:∀p,lo=some p → ∃u,US=some u∧aF c p u) (amY:lo=none→US=none)
  (OP:∀p,hi=some p → ∃u,UT=some u∧aF c p u) (amZ:hi=none→UT=none)
  (UW:∀p,mx=some p → ∃u,UU=some u∧aF c p u) (am0:mx=none→UU=none)
  (h1:pS 0 lo a) (h2:pS len hi b) (h3:pS cap mx m) (hm:mx.isSome=true→hi.isSome=true) (l3:a≤b) (ZU:b≤m) (hmc:m≤cap) :
  (Instr.sliceBounds true len cap US UT UU).run P w = .ok (a,b,m) w:=by
 have key:∀ {d y n:Nat} {o:Option PV} {vo:Option Value} {code:BoundsCode},(∀p,o=some p → ∃u,vo=some u∧aF c p u)→(o=none→vo=none)→pS d o n→n≤y →
   (o=none∧vo=none∧n=d) ∨ ∃kk k,vo=some (.int kk k)∧k.toNat=n∧o.isSome=true ∧ ∀code,(Instr.sliceBound (.int kk k) y code).run P w = .ok n w:=by
  intro d y n o vo code ho ho' hy hn
  cases o with
  | none=>exact .inl ⟨rfl,ho' rfl,hy⟩
  | some p =>
   cases p with
   | int kk k =>
    obtain⟨u,hu,hr⟩:=ho _ rfl
    rw [bS]at hr
    subst hr
    obtain⟨g1,g2⟩:=hy
    exact .inr ⟨kk,k,hu,g2.symm,rfl,fun code=>by rw [y4 g1 (by omega),g2]⟩
   | _=>exact False.elim hy
 rcases key (y:=b) (code:=.index) BP amY h1 l3 with ⟨rfl,rfl,rfl⟩ | ⟨_,_,rfl,_,_,g1⟩ <;>
 rcases key (y:=m) (code:=.index) OP amZ h2 ZU with ⟨rfl,rfl,rfl⟩ | ⟨_,_,rfl,_,_,g2⟩ <;>
 rcases key (y:=cap) (code:=.index) UW am0 h3 hmc with ⟨rfl,rfl,rfl⟩ | ⟨_,_,rfl,_,OQ,g3⟩ <;>
 first
  | (simp only [Instr.sliceBounds,Sem.run_bind,Sem.run_pure,Result.andThen_ok, *];done)
  | (have:=hm OQ;simp at this)
end
section
variable {E:Env} {c:Cx} {w0:World} {S0:cY}
def FJ(c:Cx)(p:Option PV)(v:Option Value):Prop:=(∀q,p=some q → ∃u,v=some u∧aF c q u)∧(p=none→v=none)
theorem i9{t e:TypeId}{n bb:Nat}{z:List PV}(hE:E.ty t = .slice e n bb z){A:Option Addr}{len cap:Nat}{lo hi mx:Option PV}{US UT UU:Option Value}{a b m:Nat}
  (BP:FJ c lo US) (OP:FJ c hi UT) (UW:FJ c mx UU)
  (h1:pS 0 lo a) (h2:pS len hi b) (h3:pS cap mx m) (hm:mx.isSome=true→hi.isSome=true) (l3:a≤b) (ZU:b≤m) (hmc:m≤cap) :
  (Instr.sliceAt t (.slice A len cap) US UT UU).run E.P c.w = .ok (.slice (if m=a then A else A.map (·.add (a*n))) (b-a) (m-a)) c.w:=by
 obtain⟨hu,hn,_,i,zv,oP,_,hs,_,_,_⟩:=eA hE
 have hb:=FI (P:=E.P) (w:=c.w) BP.1 BP.2 OP.1 OP.2 UW.1 UW.2 h1 h2 h3 hm l3 ZU hmc
 simp [Instr.sliceAt,Instr.slice,run_underlying hu,hb,cC oP,hs]
theorem FK{S:cY}{w:World}{n:Nat}{l:List (List PV)}{g o:Nat}(h:dX S w g o l)(hn:∀e∈l,e.length=n)(a b:Nat):dX S w g (o+a*n) ((l.take b).drop a):=by
 refine kT (n:=n) (fun e he=>hn e (List.mem_of_mem_take (List.mem_of_mem_drop he))) fun k e hk=>?_
 rw [List.getElem?_drop,List.getElem?_take]at hk
 split at hk
 ·have:=gD h hn hk
  rw [show o+a*n+k*n=o+(a+k)*n by rw [Nat.add_mul];omega];exact this
 ·cases hk
theorem FL{t:TypeId}{x v:PV}{lo hi mx:Option PV}{vx:Value}{US UT UU:Option Value}(hI:Inv w0 S0 c)(hx:aF c x vx)(BP:FJ c lo US)(OP:FJ c hi UT)(UW:FJ c mx UU)
  (h:kM E t c.rows x lo hi mx v):∃v',(Instr.sliceAt t vx US UT UU).run E.P c.w = .ok v' c.w∧aF c v v':=by
 unfold kM at h
 split at h
 ·rename_i e n bb z hE
  have sub:∀(l:List (List PV)) (A:Option Addr) (cap a b:Nat),l.length≤cap→cap≤maxLen→(l = [] ∨ ∃g o,A=some ⟨g,o,none⟩∧dX c.S c.w g o l) →
    (∀e∈l,e.length=n)→pS 0 lo a→pS l.length hi b→a≤b→b≤l.length →
    FA l a b hi mx v →
    ∃v',(Instr.sliceAt t (.slice A l.length cap) US UT UU).run E.P c.w = .ok v' c.w∧aF c v v':=by
   intro l A cap a b hlc ZV eS hn h1 h2 l3 hbl h
   have hlen:((l.take b).drop a).length=b-a:=by simp;omega
   have addr:∀m,b≤m→(l.take b).drop a = [] ∨ ∃g o,(if m=a then A else A.map (·.add (a*n)))=some ⟨g,o,none⟩∧dX c.S c.w g o ((l.take b).drop a):=by
    intro m hm
    rcases Nat.lt_or_ge a b with jH | UX
    ·right
     rcases eS with rfl | ⟨g,o,rfl,hr⟩
     ·simp at hbl;omega
     ·rw [if_neg (by omega)]
      exact⟨g,o+a*n,by simp [fU],FK hr hn a b⟩
    ·left;exact List.eq_nil_of_length_eq_zero (by rw [hlen];omega)
   cases mx with
   | none =>
    simp only [FA]at h
    subst h
    refine⟨_,i9 hE BP OP UW h1 h2 (m:=cap) (by simp [pS]) (by simp) l3 (by omega) (Nat.le_refl _),?_⟩
    simp only [aF,aM,cG]
    exact⟨_,cap-a,by rw [hlen],by rw [hlen];omega,by omega,addr cap (by omega)⟩
   | some m =>
    simp only [FA]at h
    obtain⟨c',hc',rfl,OQ,rfl⟩:=h
    have h3:pS cap (some m) b:=by cases m<;>simp_all [pS]
    refine⟨_,i9 hE BP OP UW h1 h2 h3 (fun _=>OQ) l3 (Nat.le_refl _) (by omega),?_⟩
    simp only [aF,aM,cG]
    exact⟨_,by rw [hlen],by rw [hlen];omega,addr b (Nat.le_refl _)⟩
  split at h
  ·obtain⟨a,b,h1,h2,rfl,rfl,OR,rfl⟩:=h
   simp only [aF,aM,cG]at hx
   subst hx
   have abR:mx=none:=by simpa using OR
   subst abR
   exact⟨_,i9 hE BP OP UW h1 h2 (m:=0) (by simp [pS]) (by simp) (Nat.le_refl _) (Nat.le_refl _) (Nat.le_refl _),by simp [aF,aM,cG]⟩
  ·obtain⟨a,b,h1,h2,l3,hbl,hn,h⟩:=h
   simp only [aF,aM,cG]at hx
   obtain⟨A,cap,rfl,g1,g2,g3⟩:=hx
   exact sub _ A cap a b g1 g2 g3 hn h1 h2 l3 hbl h
  ·obtain⟨a,b,h1,h2,l3,hbl,hn,h⟩:=h
   simp only [aF,aM,cG]at hx
   obtain⟨A,rfl,g2,g3⟩:=hx
   exact sub _ A _ a b (Nat.le_refl _) g2 g3 hn h1 h2 l3 hbl h
  ·rename_i id ver off len
   obtain⟨r,hr,iO,lF,a,b,h1,h2,l3,hbl,OR,rfl⟩:=h
   have abR:mx=none:=by simpa using OR
   subst abR
   simp only [aF,aM]at hx ⊢
   obtain⟨OO,hx⟩:=hx
   obtain⟨hle,hx⟩:=hx r hr iO
   obtain⟨⟨xs,fV,_,_⟩,_⟩:=hI.row id r hr
   have ZW:∀A m cap,c.β id = .slice A m cap→r.els.length≤cap:=by
    intro A m cap hβ
    rw [hβ]at fV
    rcases fV.2 with ⟨h',hz⟩ | ⟨g,gE,cur,h',_,_,FM,_⟩
    ·simp at h';omega
    ·simp at h';omega
   rcases hx with ⟨rfl,A,m,cap,hβ,rfl⟩ | ⟨gZ,g,m,cap,A,hβ,hoc,rfl,ha⟩
   ·have VI:=ZW _ _ _ hβ
    refine⟨_,i9 hE BP OP UW h1 h2 (m:=cap) (by simp [pS]) (by simp) l3 (by omega) (Nat.le_refl _),OO,fun r' i7 _=>?_⟩
    rw [hr]at i7;cases i7
    refine⟨by omega,?_⟩
    rcases Nat.eq_zero_or_pos a with rfl | VJ
    ·left
     refine⟨rfl,A,m,cap,hβ,?_⟩
     congr 1
     cases A<;>simp [Addr.add]
    ·right
     obtain⟨g,gE,mP⟩:=mO hI hr (by omega)
     rw [hβ]at mP
     simp only [Value.slice.injEq]at mP
     obtain⟨rfl,rfl,rfl⟩:=mP
     refine⟨by omega,g,_,_,if cap=a then⟨g,0,none⟩else⟨g,0+a*n,none⟩,hβ,by omega,?_,?_⟩
     ·simp only [Nat.zero_add]
      congr 1
      split<;>simp [fU]
     ·rcases Nat.lt_or_ge a b with jH | UX
      ·right;rw [if_neg (by omega)];simp [lF]
      ·left;omega
   ·have VI:=ZW _ _ _ hβ
    refine⟨_,i9 hE BP OP UW h1 h2 (m:=cap-off) (by simp [pS]) (by simp) l3 (by omega) (Nat.le_refl _),OO,fun r' i7 _=>?_⟩
    rw [hr]at i7;cases i7
    refine⟨by omega, .inr ⟨by omega,g,m,cap,if cap-off=a then A else A.add (a*n),hβ,by omega,?_,?_⟩⟩
    ·rw [show cap-(off+a)=cap-off-a by omega]
     congr 1
     split<;>simp
    ·rcases Nat.lt_or_ge a b with jH | UX
     ·right
      rcases ha with ha | rfl
      ·omega
      ·rw [if_neg (by omega)];simp [fU,lF,Nat.add_mul]
     ·left;omega
  ·exact False.elim h
 ·exact False.elim h
end
theorem y5{α:Type}(l:List α)(i:Nat)(v:α)(rest:List α)(h:i+rest.length+1≤l.length) :
  ((l.set i v).take (i+1)++rest++(l.set i v).drop (i+1+rest.length))=l.take i++(v::rest)++l.drop (i+(rest.length+1)):=by
 have h1:(l.set i v).take (i+1)=l.take i ++ [v]:=by
  rw [List.take_succ_eq_append_getElem (by simp;omega)]
  simp [List.take_set,List.set_eq_of_length_le (show (l.take i).length≤i by simp;omega)]
 have h2:(l.set i v).drop (i+1+rest.length)=l.drop (i+1+rest.length):=by
  rw [List.drop_set,if_pos (by omega)]
 rw [h1,h2,show i+(rest.length+1)=i+1+rest.length by omega]
 simp
theorem lG(off:Nat):∀(L:List Value) (k:Nat) (arr:Array Value),off+k+L.length≤arr.size →
  ((L.zipIdx k).foldl (fun cs (x:Value × Nat)=>cs.setIfInBounds (off+x.2) x.1) arr).toList=arr.toList.take (off+k)++L++arr.toList.drop (off+k+L.length)
 | [],k,arr,_=>by simp
 | v::L,k,arr,h=>by
  simp only [List.zipIdx_cons,List.foldl_cons]
  rw [lG off L (k+1) (arr.setIfInBounds (off+k) v) (by simp at h ⊢;omega)]
  have:=y5 arr.toList (off+k) v L (by simp at h ⊢;omega)
  rw [Array.toList_setIfInBounds,show off+(k+1)=off+k+1 by omega]
  simpa [List.length_cons]using this
section
variable {E:Env} {c:Cx} {w0:World} {S0:cY}
theorem y6{p:PV}{v:Value}(h:aF c p v)(hp:∀l,p ≠ .ag l)(hu:∀l,p ≠ .eQ l)(hn:p ≠ .undef)(ho:∀a b d e,p ≠ .own a b d e)(ht:∀a b d e,p ≠ .ptr a b d e):v.cells = #[v]:=by
 cases p with
 | ag l=>exact absurd rfl (hp l)
 | eQ l=>exact absurd rfl (hu l)
 | undef=>exact absurd rfl hn
 | own a b d e=>exact absurd rfl (ho a b d e)
 | ptr a b d e=>exact absurd rfl (ht a b d e)
 | bool b=>rw [cJ]at h;subst h;rfl
 | int k n=>rw [bS]at h;subst h;rfl
 | str s=>simp only [aF,aM,cG]at h;subst h;rfl
 | iN=>simp only [aF,aM,cG]at h;subst h;rfl
 | nil=>simp only [aF,aM,cG]at h;subst h;rfl
 | sl l=>simp only [aF,aM,cG]at h;obtain⟨a,cap,rfl,_⟩:=h;rfl
 | fX l=>simp only [aF,aM,cG]at h;obtain⟨a,rfl,_⟩:=h;rfl
 | rd l=>simp only [aF,aM,cG]at h;obtain⟨a,o,rfl,_⟩:=h;rfl
 | fn g l=>simp only [aF,aM,cG]at h;obtain⟨a,rfl,_⟩:=h;rfl
theorem FN{p:PV}{v:Value}{l:List PV}(h:aF c p v)(hc:dM p=some l):a6 (aM c) l v.cells.toList:=by
 have one:∀q:PV,(aF c q v→aM c q v)→v.cells = #[v]→p=q→l = [q]→a6 (aM c) l v.cells.toList:=by
  rintro q hq hv rfl rfl
  rw [hv]
  exact⟨hq h,trivial⟩
 cases p with
 | ag l' =>
  simp only [dM,Option.some.injEq]at hc
  subst hc
  obtain⟨vs,rfl,BO⟩:=h
  simpa [Value.cells]using BO
 | eQ _=>simp [dM]at hc
 | undef=>simp [dM]at hc
 | own _ _ _ _=>simp [dM]at hc
 | ptr _ _ _ _=>simp [dM]at hc
 | _ =>
  simp only [dM,Option.some.injEq]at hc
  refine one _ (fun hh=>by simpa only [aF]using hh) (y6 h ?_ ?_ ?_ ?_ ?_) rfl hc.symm<;>simp
theorem uA{fs:List (Nat × Nat × Bool)}:∀ {ps:List (Nat × PV)} {vs:List (Nat × Value)} {z l:List PV} {cells:Array Value},
  a6 (fun (x:Nat × PV) (y:Nat × Value)=>x.1=y.1∧aF c x.2 y.2) ps vs→a6 (aM c) z cells.toList→oL fs ps z=some l →
  ∃bZ,Instr.fill (fun i=>(fs.toArray.map fun x=>(x.1,x.2.1))[i]?) cells vs=some bZ∧a6 (aM c) l bZ.toList
 | [],[],z,l,cells,_,hz,h=>by
  simp only [oL,Option.some.injEq]at h
  subst h
  exact⟨cells,by simp [Instr.fill],hz⟩
 | [],_::_,_,_,_,h,_,_=>h.elim
 | _::_,[],_,_,_,h,_,_=>h.elim
 | (i,p)::ps,(j,v)::vs,z,l,cells,h,hz,hf=>by
  obtain⟨⟨hij,hr⟩,ahj⟩:=h
  simp only at hij hr
  subst hij
  simp only [oL]at hf
  split at hf
  ·rename_i o n b l' hfs hcp
   split at hf
   ·rename_i IC
    obtain⟨hl,hon⟩:=IC
    have hc:=FN hr hcp
    have lF:v.cells.size=n:=by rw [←hl,hc.length];simp
    have FO:z.length=cells.size:=by rw [hz.length];simp
    have xM:=lG o v.cells.toList 0 cells (by simp;omega)
    have hz':a6 (aM c) (z.take o++l'++z.drop (o+n)) ((v.cells.toList.zipIdx 0).foldl (fun cs (x:Value × Nat)=>cs.setIfInBounds (o+x.2) x.1) cells).toList:=by
     rw [xM]
     have:v.cells.toList.length=n:=by simp [lF]
     rw [this]
     simpa using((hz.take o).append hc).append (hz.drop (o+n))
    obtain⟨bZ,h1,h2⟩:=uA (fs:=fs) ahj hz' hf
    refine⟨bZ,?_,h2⟩
    have ZY:(fs.toArray.map fun x=>(x.1,x.2.1))[i]? = some (o,n):=by simp [hfs]
    simp only [Instr.fill,ZY]
    rw [if_neg (by simp [lF];omega)]
    rw [←h1]
    congr 1
    have hz3:v.cells.toList.zipIdx=v.cells.zipIdx.toList:=by simp
    rw [hz3,Array.foldl_toList]
   ·cases hf
  ·cases hf
end
section
variable {E:Env} {c:Cx} {w0:World} {S0:cY}
theorem run_places{fields:Array Field}{fs:List (Nat × Nat × Bool)}(h:a6 (j9 E.P) fields.toList fs)(w:World) :
  (fields.mapM (fun f=>do pure (f.offset,←Go.sizeOf f.type)):Sem (Array (Nat × Nat))).run E.P w = .ok (fs.toArray.map fun x=>(x.1,x.2.1)) w:=by
 have key:∀(l:List Field) (fs:List (Nat × Nat × Bool)),a6 (j9 E.P) l fs →
   (l.mapM (fun f=>Functor.map (Prod.mk f.offset) (Go.sizeOf f.type)):Sem (List (Nat × Nat))).run E.P w = .ok (fs.map fun x=>(x.1,x.2.1)) w:=by
  intro l
  induction l with
  | nil =>
   intro fs h
   cases fs with
   | nil=>simp
   | cons _ _=>exact h.elim
  | cons f l ih =>
   intro fs h
   cases fs with
   | nil=>exact h.elim
   | cons x fs =>
    obtain⟨i,h1,h2⟩:=h.1.size
    simp [List.mapM_cons,cC h1,h2,ih fs h.2,h.1.off]
 have h2:=key fields.toList fs h
 rw [Array.mapM_eq_mapM_toList]
 simp [h2]
theorem xN{p p':Nat→Option (Nat × Nat)}(h:∀i x,p i=some x→p' i=some x):∀(l:List (Nat × Value)) (cells r:Array Value),Instr.fill p cells l=some r→Instr.fill p' cells l=some r
 | [],cells,r,h1=>h1
 | (i,v)::l,cells,r,h1=>by
  unfold Instr.fill at h1 ⊢
  cases hp:p i with
  | none=>rw [hp]at h1;cases h1
  | some x =>
   obtain⟨off,size⟩:=x
   rw [hp]at h1
   rw [h i _ hp]
   simp only at h1 ⊢
   split at h1
   ·cases h1
   ·rename_i hc
    rw [if_neg hc]
    exact xN h l _ r h1
theorem FP{t:TypeId}{parts:Array (Nat × Operand)}{ρ:Operand→PV}{vρ:Operand→Value}{v:PV}(hρ:∀x,aF c (ρ x) (vρ x))
  (h:mL (E.ty t) (parts.toList.map fun x=>(x.1,ρ x.2)) v) :
  ∃v',(Instr.build t (parts.map fun(i,x)=>(i,vρ x))).run E.P c.w = .ok v' c.w∧aF c v v':=by
 unfold mL at h
 split at h
 ·rename_i fs z hE
  obtain⟨l,hl,rfl⟩:=h
  have ht:=E.ok t
  rw [hE]at ht
  obtain⟨⟨fields,hu,ha⟩,hz⟩:=ht
  obtain⟨i,zv,hi,hzv,_,FQ,_⟩:=hz.ok
  have o9:a6 (aM c) z zv.cells.toList:=by
   rw [←FQ]
   refine a6.cO (by simp) fun k a b E2 hb=>?_
   simp at E2
   obtain⟨u,ON,rfl⟩:=E2
   have:zv.cells.toList[k]? = some u:=by simpa using ON
   rw [this]at hb;cases hb
   exact iU _
  obtain⟨bZ,h1,h2⟩:=uA (c:=c) (fs:=fs) (vs:=(parts.map fun(i,x)=>(i,vρ x)).toList) (cells:=zv.cells) (by
   refine a6.cO (by simp) fun k a b E2 hb=>?_
   simp at E2 hb
   obtain⟨i',x,hx,rfl⟩:=E2
   obtain⟨j',y,hy,rfl⟩:=hb
   rw [hx]at hy;cases hy
   exact⟨rfl,hρ _⟩) o9 hl
  refine⟨.agg bZ,?_,bZ.toList,by simp,h2⟩
  have ZZ:Instr.fill (fun x=>(fs.toArray.map fun x=>(x.1,x.2.1))[x]?) zv.cells (parts.map fun x=>(x.1,vρ x.2)).toList=some bZ:=h1
  simp only [Instr.build,zeroValue,typeInfo,program,Sem.run_bind,Sem.run,hi,hzv,Sem.run_pure,Result.andThen_ok,run_underlying hu,run_places ha,ZZ]
 ·rename_i e k n z hE
  obtain⟨l,hl,rfl⟩:=h
  have ht:=E.ok t
  rw [hE]at ht
  obtain⟨hu,hz,j,hj,hjs⟩:=ht
  obtain⟨i,zv,hi,hzv,_,FQ,_⟩:=hz.ok
  have o9:a6 (aM c) z zv.cells.toList:=by
   rw [←FQ]
   refine a6.cO (by simp) fun k a b E2 hb=>?_
   simp at E2
   obtain⟨u,ON,rfl⟩:=E2
   have:zv.cells.toList[k]? = some u:=by simpa using ON
   rw [this]at hb;cases hb
   exact iU _
  obtain⟨bZ,h1,h2⟩:=uA (c:=c) (fs:=FC k n) (vs:=(parts.map fun(i,x)=>(i,vρ x)).toList) (cells:=zv.cells) (by
   refine a6.cO (by simp) fun k a b E2 hb=>?_
   simp at E2 hb
   obtain⟨i',x,hx,rfl⟩:=E2
   obtain⟨j',y,hy,rfl⟩:=hb
   rw [hx]at hy;cases hy
   exact⟨rfl,hρ _⟩) o9 hl
  refine⟨.agg bZ,?_,bZ.toList,by simp,h2⟩
  have ZZ:Instr.fill (fun i=>some (i*n,n)) zv.cells (parts.map fun x=>(x.1,vρ x.2)).toList=some bZ:=by
   refine xN (fun i x hx=>?_) _ _ _ h1
   simp only [FC,List.getElem?_toArray,List.map_toArray,List.map_map,List.getElem?_map]at hx
   rw [Option.map_eq_some_iff]at hx
   obtain⟨a,ha,rfl⟩:=hx
   rw [List.getElem?_range]at ha
   ·cases ha;rfl
   ·have:=(List.getElem?_eq_some_iff.1 ha).1
    simpa using this
  simp only [Instr.build,zeroValue,typeInfo,program,Sem.run_bind,Sem.run,hi,hzv,Sem.run_pure,Result.andThen_ok,run_underlying hu,cC hj,hjs,ZZ]
 ·exact False.elim h
theorem abS{o:Oper}{a:Act}{f:Nat→PV}(hI:Inv w0 S0 c)(hf:∀s,aF c (f s) (a.tmps.getD s undef)){v:PV}(h:yv E o.op (aN f) c.rows v) :
  ∃v',(execOp a.eval o).run E.P c.w = .ok (.value v') c.w∧aF c v v':=by
 have hρ:=jN hf
 have fin:∀ {s:Sem Value},(∃v',s.run E.P c.w = .ok v' c.w∧aF c v v') → ∃v',(do pure (Next.value (←s)):Sem Next).run E.P c.w = .ok (.value v') c.w∧aF c v v':=by
  rintro s ⟨v',h1,h2⟩
  exact⟨v',by simp [h1],h2⟩
 obtain⟨dst,op,type,pos,after,guard⟩:=o
 simp only at h
 unfold yv at h
 split at h
 ·subst h;exact⟨_,by simp [execOp],hρ _⟩
 ·subst h;exact⟨_,by simp [execOp],hρ _⟩
 ·rename_i x a' b'
  obtain⟨t,ht,rfl⟩:=h
  have:=hρ x
  rw [ht,cJ]at this
  refine⟨if t=true then a.eval a' else a.eval b',by simp [execOp,this,asBool],?_⟩
  split
  ·exact hρ _
  ·exact hρ _
 ·exact fin (OJ (hρ _) (hρ _) h)
 ·rename_i op _ x
  unfold ZT at h
  split at h
  ·rename_i b heq
   subst h
   have:=hρ x
   rw [heq,cJ]at this
   exact⟨.bool (!b),by simp [execOp,this,Op.unary],cJ.2 rfl⟩
  ·rename_i k n heq
   subst h
   have:=hρ x
   rw [heq,bS]at this
   exact⟨.int k (k.wrap (0-n)),by simp [execOp,this,Op.unary,Op.intArith],bS.2 rfl⟩
  ·exact False.elim h
 ·rename_i s d x
  unfold oM at h
  split at h
  ·rename_i ks kd k n h1 h2 h3
   subst h
   have:=hρ x
   rw [h3,bS]at this
   have hs:=E.ok s
   have hd:=E.ok d
   rw [h1]at hs
   rw [h2]at hd
   exact⟨.int kd (kd.wrap n),by simp [execOp,this,convert,run_underlying hs.1,run_underlying hd.1,Conv.intToInt],bS.2 rfl⟩
  ·exact False.elim h
 ·rename_i x i
  unfold FB at h
  split at h
  ·rename_i l heq
   have:=hρ x
   rw [heq]at this
   simp only [aF,aM,cG]at this
   obtain⟨vs,BO,hl⟩:=this
   obtain⟨u,hu,hr⟩:=(b5.1 hl).get h
   exact⟨u,by simp [execOp,BO,Instr.extract,hu],aF.gB hr⟩
  ·exact False.elim h
 ·exact fin (xK hI (hρ _) h)
 ·exact fin (FH (hρ _) h)
 ·exact fin (tY (hρ _) h)
 ·exact fin (tZ hI (hρ _) (hρ _) h)
 ·rename_i t x lo hi mx
  have ho:∀y:Option Operand,FJ c (y.map (aN f)) (y.map a.eval):=fun y=>by
   cases y with
   | none=>exact⟨by simp,by simp⟩
   | some y=>exact⟨fun q hq=>by simp at hq;subst hq;exact⟨_,rfl,hρ y⟩,by simp⟩
  exact fin (FL hI (hρ _) (ho _) (ho _) (ho _) h)
 ·exact fin (FP hρ h)
 ·rename_i t x ix
  unfold o8 at h
  split at h
  ·rename_i e m n z l k kk h1 h2 h3
   obtain⟨⟨q1,q2,rfl,⟨q3,q4⟩,q5⟩,rfl⟩:=h
   have g2:=hρ x
   have g3:=hρ ix
   rw [h2]at g2
   rw [h3,bS]at g3
   obtain⟨vs,g4,g5⟩:=g2
   have ht:=E.ok t
   rw [h1]at ht
   obtain⟨t1,_,i,t2,t3⟩:=ht
   obtain⟨d,hd⟩:=(E.ok e).und q1
   obtain⟨u,hu,hr⟩:=g5.get (List.getElem?_eq_getElem q5)
   refine⟨u,?_,?_⟩
   ·have jH:(kk.toNat:Int)<m:=by omega
    have hkm:kk<m:=by omega
    simp [execOp,g4,g3,Instr.index,asIntOf,run_underlying t1,q3,hkm,cC t2,t3,part,jX hd,(E.ok e).ahg q1,q2,hu]
   ·rw [show l.getD kk.toNat .undef=l[kk.toNat]by simp [List.getD,List.getElem?_eq_getElem q5]]
    cases hp:l[kk.toNat]with
    | ag l'=>rw [hp]at hr;exact(by simp only [aM,cG]at hr;obtain⟨BM,r1,r2⟩:=hr;exact⟨BM,r1,(b5.1 r2).mono fun _ _ h=>aM.gB h⟩)
    | _=>rw [hp]at hr;exact hr
  ·rename_i s k kk h1 h2 h3
   obtain⟨h0,b,hb,rfl⟩:=h
   have g2:=hρ x
   have g3:=hρ ix
   rw [h2]at g2
   rw [h3,bS]at g3
   simp only [aF,aM,cG]at g2
   have ht:=E.ok t
   rw [h1]at ht
   refine⟨.int .u8 b.toNat,by simp [execOp,g2,g3,Instr.index,asIntOf,run_underlying ht.1,h0,hb],bS.2 rfl⟩
  ·exact False.elim h
 ·rename_i g b8
  obtain⟨hp,rfl⟩:=h
  refine⟨.func (.func g) #[] (b8.map a.eval),by simp [execOp,Instr.makeFunc],?_⟩
  simp only [aF,aM,cG]
  refine⟨(b8.map a.eval).toList,by rw [Array.toArray_toList],b5.2 (a6.cO (by simp) fun k p u sZ hu=>?_)⟩
  simp at sZ hu
  obtain⟨x,hx,rfl⟩:=sZ
  obtain⟨y,hy,rfl⟩:=hu
  rw [hx]at hy;cases hy
  have h1:eR (aN f x)=true:=List.all_eq_true.1 hp _ (by simp;exact⟨x,Array.mem_of_getElem? hx,rfl⟩)
  exact aF.rep (hρ x) h1
 ·rename_i x t
  unfold rT at h
  split at h
  ·rename_i e n b z hE
   obtain⟨hu,_⟩:=eA hE
   obtain⟨n',hn,rfl⟩:=h
   have hx:=hρ x
   have key:∀A cap,a.eval x = .slice A n' cap→(execOp a.eval { dst:=dst,op:=.call { callee:=.builtin .len,args:=⟨[x]⟩,argTypes:=⟨[t]⟩ },type:=type,pos:=pos,after:=after,guard:=guard }).run E.P c.w = .ok (.value (.int .i64 n')) c.w:=by
    intro A cap hA
    simp [execOp,resolve,invoke,builtin,Builtin.len_,hA,run_underlying hu,goInt]
   refine⟨.int .i64 n',?_,bS.2 rfl⟩
   unfold KQ at hn
   split at hn
   ·rename_i heq;rw [heq]at hx;simp only [aF,aM,cG]at hx;exact key none 0 (by rw [hx,hn])
   ·rename_i heq;rw [heq]at hx;simp only [aF,aM,cG]at hx;obtain⟨A,cap,hA,_⟩:=hx;exact key A cap (by rw [hA,hn])
   ·rename_i heq;rw [heq]at hx;simp only [aF,aM,cG]at hx;obtain⟨A,hA,_⟩:=hx;exact key A _ (by rw [hA,hn])
   ·rename_i heq
    rw [heq]at hx
    simp only [aF,aM]at hx
    obtain⟨⟨r,hr,iO⟩,rfl⟩:=hn
    rcases(hx.2 r hr iO).2 with ⟨_,A,m,cap,_,hA⟩ | ⟨_,g,m,cap,A,_,_,hA,_⟩
    ·exact key A cap hA
    ·exact key (some A) _ hA
   ·exact False.elim hn
  ·exact False.elim h
 ·rename_i x y ts
  unfold FD at h
  split at h
  ·rename_i k1 a1 k2 a2 h1 h2
   subst h
   have g1:=hρ x
   have g2:=hρ y
   rw [h1,bS]at g1
   rw [h2,bS]at g2
   refine⟨.int k1 (if a2>a1 then a2 else a1),by simp [execOp,resolve,invoke,builtin,Builtin.max_,Builtin.max2,g1,g2],bS.2 rfl⟩
  ·exact False.elim h
 ·rename_i x y ts
  unfold FE at h
  split at h
  ·rename_i k1 a1 k2 a2 h1 h2
   subst h
   have g1:=hρ x
   have g2:=hρ y
   rw [h1,bS]at g1
   rw [h2,bS]at g2
   refine⟨.int k1 (if a2<a1 then a2 else a1),by simp [execOp,resolve,invoke,builtin,Builtin.min_,Builtin.min2,g1,g2],bS.2 rfl⟩
  ·exact False.elim h
 ·rename_i x
  unfold wU at h
  have hx:=hρ x
  split at h
  ·rename_i l heq
   rw [heq]at hx
   subst h
   have UY:=hx
   simp only [aF,aM,cG]at hx
   obtain⟨b,o,hv,_⟩:=hx
   exact⟨a.eval x,by simp [execOp,hv],UY⟩
  ·rename_i id ver i j heq
   rw [heq]at hx
   obtain⟨⟨r,hr,iO⟩,rfl⟩:=h
   have UY:=hx
   simp only [aF,aM]at hx
   obtain⟨g,n,cap,_,hv⟩:=hx.2 r hr iO
   exact⟨a.eval x,by simp [execOp,hv],UY⟩
  ·exact False.elim h
 ·exact False.elim h
end
def c4{α:Type}(f:Nat→α)(i:Nat)(x:α):Nat→α:=fun j=>if j=i then x else f j
theorem fE{α:Type}(f:Nat→α)(i:Nat)(x:α):c4 f i x i=x:=by simp [c4]
theorem iW{α:Type}(f:Nat→α){i j:Nat}(x:α)(h:j≠i):c4 f i x j=f j:=by simp [c4,h]
def eZ(rows:Rows):PV→Prop
 | .own id ver _ _=>∃r,rows id=some r∧r.ver=ver
 | .ptr id ver _ _=>∃r,rows id=some r∧r.ver=ver
 | .ag _=>False
 | .eQ _=>False
 | .undef=>False
 | _=>True
section
variable {E:Env} {c:Cx} {w0:World} {S0:cY}
theorem aM.one{p:PV}{v:Value}(h:aM c p v)(ho:eZ c.rows p):v.oneCell'=true:=by
 cases p with
 | own id ver off len =>
  obtain⟨r,hr,hv⟩:=ho
  simp only [aM]at h
  rcases(h.2 r hr hv).2 with ⟨_,A,n,cap,_,rfl⟩ | ⟨_,g,n,cap,A,_,_,rfl,_⟩<;>rfl
 | ptr id ver i j =>
  obtain⟨r,hr,hv⟩:=ho
  simp only [aM]at h
  obtain⟨g,n,cap,_,rfl⟩:=h.2 r hr hv
  rfl
 | ag l=>exact ho.elim
 | eQ l=>exact ho.elim
 | undef=>exact ho.elim
 | bool b=>simp only [aM,cG]at h;subst h;rfl
 | int k n=>simp only [aM,cG]at h;subst h;rfl
 | str s=>simp only [aM,cG]at h;subst h;rfl
 | iN=>simp only [aM,cG]at h;subst h;rfl
 | nil=>simp only [aM,cG]at h;subst h;rfl
 | sl l=>simp only [aM,cG]at h;obtain⟨a,cap,rfl,_⟩:=h;rfl
 | fX l=>simp only [aM,cG]at h;obtain⟨a,rfl,_⟩:=h;rfl
 | rd l=>simp only [aM,cG]at h;obtain⟨a,o,rfl,_⟩:=h;rfl
 | fn g l=>simp only [aM,cG]at h;obtain⟨a,rfl,_⟩:=h;rfl
def bP:PV→Option (List PV)
 | .ag l=>some l
 | .eQ _=>none
 | .undef=>none
 | p=>some [p]
theorem jY{p:PV}{v:Value}{l:List PV}(h:aF c p v)(hc:bP p=some l)(ho:∀q∈l,eZ c.rows q):a6 (aM c) l v.cells.toList ∧ ∀u∈v.cells.toList,u.oneCell'=true:=by
 have key:a6 (aM c) l v.cells.toList:=by
  have one:∀q:PV,p=q→l = [q]→(aF c q v→aM c q v)→a6 (aM c) l v.cells.toList:=by
   rintro q rfl rfl hq
   have h1:=hq h
   have h2:=h1.one (ho _ (by simp))
   have h3:v.cells = #[v]:=by cases v<;>simp_all [Value.cells,Value.oneCell']
   rw [h3]
   exact⟨h1,trivial⟩
  cases p with
  | ag l' =>
   simp only [bP,Option.some.injEq]at hc
   subst hc
   obtain⟨vs,rfl,BO⟩:=h
   simpa [Value.cells]using BO
  | eQ _=>simp [bP]at hc
  | undef=>simp [bP]at hc
  | _ =>
   simp only [bP,Option.some.injEq]at hc
   exact one _ rfl hc.symm (fun hh=>by simpa only [aF]using hh)
 refine⟨key,fun u hu=>?_⟩
 obtain⟨k,hk⟩:=List.getElem?_of_mem hu
 have hl:k<l.length:=by rw [key.length];exact(List.getElem?_eq_some_iff.1 hk).1
 obtain⟨u',h1,h2⟩:=key.get (List.getElem?_eq_getElem hl)
 rw [hk]at h1;cases h1
 exact h2.one (ho _ (List.getElem_mem hl))
theorem Inv.step{ob:Option Nat}{w':World}(hI:Inv w0 S0 c)(hg:c.w.grownBy w' ob)(NZ:∀g,ob=some g→w0.heap.size≤g ∧ ∀o,¬c.S g o) :
  Below w0.heap.size w0 w'∧(∀b o,c.S b o→w'.cell? ⟨b,o,none⟩=c.w.cell? ⟨b,o,none⟩):=by
 refine⟨hI.below.grown hg hI.below.size (fun k hk=>(NZ k hk).1),fun b o hS=>World.cell?_of_block (hg.block b (hI.lt hS) ?_)⟩
 intro h
 exact(NZ b h.symm).2 o hS
theorem Inv.set(hI:Inv w0 S0 c){ob:Option Nat}{w':World}{id:Nat}{r':Row}{v':Value}{xs:List Value}(hg:c.w.grownBy w' ob)
  (NZ:∀g,ob=some g→w0.heap.size≤g∧(∀o,¬c.S g o) ∧ ∀fZ r,c.rows fZ=some r→fZ≠id→(c.β fZ).ownBlock≠some g)
  (fV:w'.ownsRow w0.heap.size r'.e r'.size v' r'.els.length xs) (eS:a6 (aM c) r'.els.flatten xs) (g9:∀x∈xs,x.oneCell'=true)
  (hlen:∀e∈r'.els,e.length=r'.size) (gZ:0<r'.size) (mQ:∀g,v'.ownBlock=some g→ob=some g∨c.w.heap.size≤g) (iO:¬c.used r'.ver) :
  Inv w0 S0 { c with w:=w',β:=c4 c.β id v',rows:=c4 c.rows id (some r'),used:=fun v=>v=r'.ver∨c.used v } ∧
  oF c { c with w:=w',β:=c4 c.β id v',rows:=c4 c.rows id (some r'),used:=fun v=>v=r'.ver∨c.used v }:=by
 obtain⟨KR,xO⟩:=hI.step hg fun g h=>⟨(NZ g h).1,(NZ g h).2.1⟩
 have wT:oF c { c with w:=w',β:=c4 c.β id v',rows:=c4 c.rows id (some r'),used:=fun v=>v=r'.ver∨c.used v }:=by
  refine⟨fun _ _ h=>h,xO,fun _ h => .inr h,fun fZ r hr=>?_⟩
  by_cases eT:fZ=id
  ·subst eT
   simp only [fE,Option.some.injEq]at hr
   subst hr
   exact .inl iO
  ·simp only [iW _ _ eT]at hr ⊢
   exact .inr ⟨r,hr,rfl,rfl,rfl,by first | rfl | trivial⟩
 refine⟨⟨KR,hI.ext,fun b o h=>(hI.new b o h).imp (fun h=>h) fun h=>⟨h.1,Nat.lt_of_lt_of_le h.2 hg.size⟩,hI.lt0,fun fZ r hr=>?_,fun fZ r hr=>?_,fun i j r s g hr hs h1 h2=>?_⟩,wT⟩
 ·by_cases eT:fZ=id
  ·subst eT
   simp only [fE,Option.some.injEq]at hr
   subst hr
   exact .inl rfl
  ·simp only [iW _ _ eT]at hr
   exact .inr (hI.clock fZ r hr)
 ·by_cases eT:fZ=id
  ·subst eT
   simp only [fE,Option.some.injEq]at hr
   subst hr
   refine⟨⟨xs,by simpa only [fE]using fV,eS.mono (aM.o6 wT),g9⟩,hlen,fun g o BH hS=>?_,gZ⟩
   simp only [fE]at BH
   rcases mQ g BH with h | h
   ·exact(NZ g h).2.1 o hS
   ·have:=hI.lt (show c.S g o from hS);omega
  ·simp only [iW _ _ eT]at hr
   obtain⟨⟨ys,g1,g2,g3⟩,g4,g5,g6⟩:=hI.row fZ r hr
   refine⟨⟨ys,?_,g2.mono (aM.o6 wT),g3⟩,g4,fun g o BH hS=>?_,g6⟩
   ·simp only [iW _ _ eT]
    refine g1.kept hg ?_
    cases hb:(c.β fZ).ownBlock with
    | none=>exact .inl rfl
    | some g =>
     right
     intro he
     exact(NZ g he.symm).2.2 fZ r hr eT hb
   ·simp only [iW _ _ eT]at BH
    exact g5 g o BH hS
 ·-- apart
  have other:∀(k:Nat) (t:Row) (g:Nat),k≠id→c.rows k=some t→(c.β k).ownBlock=some g→v'.ownBlock=some g→False:=by
   intro k t g hk ht hb hv
   rcases mQ g hv with h | h
   ·exact(NZ g h).2.2 k t ht hk hb
   ·obtain⟨⟨ys,g1,_,_⟩,_⟩:=hI.row k t ht
    have:=(g1.lt g hb).2
    omega
  by_cases hi:i=id
  ·by_cases hj:j=id
   ·rw [hi,hj]
   ·subst hi
    simp only [fE,iW _ _ hj]at h1 h2 hs
    exact(other j s g hj hs h2 h1).elim
  ·by_cases hj:j=id
   ·subst hj
    simp only [fE,iW _ _ hi]at h1 h2 hr
    exact(other i r g hi hr h1 h2).elim
   ·simp only [iW _ _ hi,iW _ _ hj]at h1 h2 hr hs
    exact hI.apart i j r s g hr hs h1 h2
theorem Inv.c4(hI:Inv w0 S0 c){w':World}{id:Nat}{r r':Row}{xs:List Value}(hr:c.rows id=some r)(hg:c.w.grownBy w' (c.β id).ownBlock)
  (fV:w'.ownsRow w0.heap.size r'.e r'.size (c.β id) r'.els.length xs) (eS:a6 (aM c) r'.els.flatten xs) (g9:∀x∈xs,x.oneCell'=true)
  (hlen:∀e∈r'.els,e.length=r'.size) (iO:r'.ver=r.ver) (Z0:r'.size=r.size) (uB:r'.els.length=r.els.length) :
  Inv w0 S0 { c with w:=w',rows:=Pm.c4 c.rows id (some r') }∧oF c { c with w:=w',rows:=Pm.c4 c.rows id (some r') }:=by
 have NZ:∀g,(c.β id).ownBlock=some g→w0.heap.size≤g ∧ ∀o,¬c.S g o:=by
  intro g h
  obtain⟨⟨ys,g1,_,_⟩,_,g5,_⟩:=hI.row id r hr
  exact⟨(g1.lt g h).1,fun o=>g5 g o h⟩
 obtain⟨KR,xO⟩:=hI.step hg NZ
 have wT:oF c { c with w:=w',rows:=Pm.c4 c.rows id (some r') }:=by
  refine⟨fun _ _ h=>h,xO,fun _ h=>h,fun fZ s hs=>?_⟩
  by_cases eT:fZ=id
  ·subst eT
   simp only [fE,Option.some.injEq]at hs
   subst hs
   exact .inr ⟨r,hr,iO.symm,Z0.symm,uB.symm,rfl⟩
  ·simp only [iW _ _ eT]at hs
   exact .inr ⟨s,hs,rfl,rfl,rfl,rfl⟩
 refine⟨⟨KR,hI.ext,fun b o h=>(hI.new b o h).imp (fun h=>h) fun h=>⟨h.1,Nat.lt_of_lt_of_le h.2 hg.size⟩,hI.lt0,fun fZ s hs=>?_,fun fZ s hs=>?_,fun i j t s g ht hs h1 h2=>?_⟩,wT⟩
 ·by_cases eT:fZ=id
  ·subst eT
   simp only [fE,Option.some.injEq]at hs
   subst hs
   rw [iO];exact hI.clock fZ r hr
  ·simp only [iW _ _ eT]at hs
   exact hI.clock fZ s hs
 ·by_cases eT:fZ=id
  ·subst eT
   simp only [fE,Option.some.injEq]at hs
   subst hs
   exact⟨⟨xs,fV,eS.mono (aM.o6 wT),g9⟩,hlen,(hI.row fZ r hr).amT,by rw [Z0];exact(hI.row fZ r hr).pos⟩
  ·simp only [iW _ _ eT]at hs
   obtain⟨⟨ys,g1,g2,g3⟩,g4,g5,g6⟩:=hI.row fZ s hs
   refine⟨⟨ys,g1.kept hg ?_,g2.mono (aM.o6 wT),g3⟩,g4,g5,g6⟩
   cases hb:(c.β fZ).ownBlock with
   | none=>exact .inl rfl
   | some g =>
    right
    intro he
    exact eT (hI.apart fZ id s r g hs hr hb he.symm)
 ·have live:∀k t,Pm.c4 c.rows id (some r') k=some t → ∃t',c.rows k=some t':=by
   intro k t hk
   by_cases eT:k=id
   ·subst eT;exact⟨r,hr⟩
   ·rw [iW _ _ eT]at hk;exact⟨t,hk⟩
  obtain⟨t',ht'⟩:=live i t ht
  obtain⟨s',BI⟩:=live j s hs
  exact hI.apart i j t' s' g ht' BI h1 h2
end
end Pm
