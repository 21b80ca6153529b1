import Derived.WalkKit
import Derived.StillTail
import Derived.Maps.AppendAt
set_option linter.unusedSimpArgs false
set_option linter.unusedVariables false
namespace Pm
open Go Go.RowKit
variable {w0 w' w:World}{b o i n id g cap j len m:Nat}{v vx vy:Value}{d:Option TypeDesc}{P:Program}{t e:TypeId}{a:Act}{k:Int}{ox oy:Operand}{fs:List (Nat × Nat × Bool)}{kk:IntKind}{vlo vhi vmx:Option Value}{α:Type}{ob:Option Nat}
theorem aA{p:Prop}(h:p:=by omega):p:=h
theorem aF{p:Prop}(h:p:=by decide):p:=h
theorem aG{p:Prop}(h:p:=by simp):p:=h
theorem aT{p:Prop}(h:p:=by grind):p:=h
inductive PV where
 | undef
 | bool (b:Bool)
 | int (k:IntKind) (n:Int)
 | str (s:ByteArray)
 | nil
 | sl (l:List (List PV))
 | kJ (l:List (List PV))
 | rd (l:List PV)
 | fn (f:FuncId) (bR:List PV)
 | own (id ver off len:Nat)
 | ptr (id ver i j:Nat)
 | ag (l:List PV)
 | dK (l:List PV)
 | nW
 | rC (f:FuncId) (fs bR:List PV)
 | sL (t:TypeId) (id ver:Nat)
variable {p x:PV}{f:Nat->PV}{l z:List PV}{lo hi mx:Option PV}
abbrev eU:=Nat->Nat->Prop
variable {S0 S:eU}
mutual
def dY(S:eU)(w:World):PV->Value->Prop
 | .undef,_=>False
 | .bool b,v=>v = .bool b
 | .int k n,v=>v = .int k n
 | .str s,v=>v = .string s
 | .nil,v=>v = .slice none 0 0
 | .sl l,v=>∃a cap,v = .slice a l.length cap∧l.length<=cap∧cap<=maxLen∧(l = [] ∨ ∃b o,a=some ⟨b,o,none⟩∧iJ S w b o l)
 | .kJ l,v=>∃a,v = .slice a l.length l.length∧l.length<=maxLen∧(l = [] ∨ ∃b o,a=some ⟨b,o,none⟩∧iJ S w b o l)
 | .rd l,v=>∃b o,v = .pointer (some ⟨b,o,none⟩)∧eB S w b o l
 | .fn f bR,v=>∃cs,v = .func (.func f) #[] cs.toArray∧b6 S w bR cs
 | .own _ _ _ _,_=>False
 | .ptr _ _ _ _,_=>False
 | .rC _ _ _,_=>False
 | .sL _ _ _,_=>False
 | .ag l,v=>∃vs,v = .agg vs.toArray∧b6 S w l vs
 | .dK l,v=>∃vs,v = .tuple vs.toArray∧b6 S w l vs
 | .nW,v=>v = .pointer none
def b6(S:eU)(w:World):List PV->List Value->Prop
 | [],vs=>vs = []
 | p::ps,vs=>∃v yV,vs=v::yV∧dY S w p v∧b6 S w ps yV
def eB(S:eU)(w:World)(b o:Nat):List PV->Prop
 | []=>True
 | p::ps=>(∃v,w.cell? ⟨b,o,none⟩=some v∧S b o∧v.oneCell'=true∧dY S w p v)∧eB S w b (o+1) ps
def iJ(S:eU)(w:World)(b o:Nat):List (List PV)->Prop
 | []=>True
 | e::es=>eB S w b o e∧iJ S w b (o+e.length) es
end
section mono
variable {S S':eU} {w w':World}
mutual
theorem dY.mono(hS:∀b o,S b o->S' b o)(hw:∀b o,S b o->w'.cell? ⟨b,o,none⟩=w.cell? ⟨b,o,none⟩):∀(p:PV) (v:Value),dY S w p v->dY S' w' p v
 | .undef,_,h=>by simp [dY]at h
 | .bool b,_,h=>by simpa [dY]using h
 | .int k n,_,h=>by simpa [dY]using h
 | .str s,_,h=>by simpa [dY]using h
 | .nW,_,h=>by simpa [dY]using h
 | .nil,_,h=>by simpa [dY]using h
 | .sl l,v,h=>by
  simp only [dY]at h |-
  obtain⟨a,cap,h1,h2,h3,h4⟩:=h
  exact⟨a,cap,h1,h2,h3,h4.imp id fun⟨b,o,ha,hr⟩=>⟨b,o,ha,iJ.mono hS hw l b o hr⟩⟩
 | .kJ l,v,h=>by
  simp only [dY]at h |-
  obtain⟨a,h1,h3,h4⟩:=h
  exact⟨a,h1,h3,h4.imp id fun⟨b,o,ha,hr⟩=>⟨b,o,ha,iJ.mono hS hw l b o hr⟩⟩
 | .rd l,v,h=>by
  simp only [dY]at h |-
  obtain⟨b,o,h1,h2⟩:=h
  exact⟨b,o,h1,eB.mono hS hw l b o h2⟩
 | .fn f bR,v,h=>by
  simp only [dY]at h |-
  obtain⟨cs,h1,h2⟩:=h
  exact⟨cs,h1,b6.mono hS hw bR cs h2⟩
 | .own _ _ _ _,_,h=>by simp [dY]at h
 | .ptr _ _ _ _,_,h=>by simp [dY]at h
 | .rC _ _ _,_,h=>by simp [dY]at h
 | .sL _ _ _,_,h=>by simp [dY]at h
 | .ag l,v,h=>by
  simp only [dY]at h |-
  obtain⟨cs,h1,h2⟩:=h
  exact⟨cs,h1,b6.mono hS hw l cs h2⟩
 | .dK l,v,h=>by
  simp only [dY]at h |-
  obtain⟨cs,h1,h2⟩:=h
  exact⟨cs,h1,b6.mono hS hw l cs h2⟩
theorem b6.mono(hS:∀b o,S b o->S' b o)(hw:∀b o,S b o->w'.cell? ⟨b,o,none⟩=w.cell? ⟨b,o,none⟩):∀(l:List PV) (vs:List Value),b6 S w l vs->b6 S' w' l vs
 | [],_,h=>by simpa [b6]using h
 | p::ps,vs,h=>by
  simp only [b6]at h |-
  obtain⟨v,yV,h1,h2,h3⟩:=h
  exact⟨v,yV,h1,dY.mono hS hw p v h2,b6.mono hS hw ps yV h3⟩
theorem eB.mono(hS:∀b o,S b o->S' b o)(hw:∀b o,S b o->w'.cell? ⟨b,o,none⟩=w.cell? ⟨b,o,none⟩):∀(l:List PV) (b o:Nat),eB S w b o l->eB S' w' b o l
 | [],_,_,_=>by simp [eB]
 | p::ps,b,o,h=>by
  simp only [eB]at h |-
  obtain⟨⟨v,h1,h2,h5,h3⟩,h4⟩:=h
  exact⟨⟨v,by rw [hw b o h2];exact h1,hS b o h2,h5,dY.mono hS hw p v h3⟩,eB.mono hS hw ps b (o+1) h4⟩
theorem iJ.mono(hS:∀b o,S b o->S' b o)(hw:∀b o,S b o->w'.cell? ⟨b,o,none⟩=w.cell? ⟨b,o,none⟩):∀(l:List (List PV)) (b o:Nat),iJ S w b o l->iJ S' w' b o l
 | [],_,_,_=>by simp [iJ]
 | e::es,b,o,h=>by
  simp only [iJ]at h |-
  exact⟨eB.mono hS hw e b o h.1,iJ.mono hS hw es b (o+e.length) h.2⟩
end
end mono
def bA{α β:Type}(R:α->β->Prop):List α->List β->Prop
 | [],[]=>True
 | a::aME,b::bs=>R a b∧bA R aME bs
 | _,_=>False
section aCb
variable {α β:Type} {R R':α->β->Prop}
theorem bA.mono(h:∀a b,R a b->R' a b):∀ {l:List α} {m:List β},bA R l m->bA R' l m
 | [],[],_=>trivial
 | _::_,_::_,hh=>⟨h _ _ hh.1,bA.mono h hh.2⟩
 | [],_::_,hh=>hh.elim
 | _::_,[],hh=>hh.elim
theorem bA.length:∀ {l:List α} {m:List β},bA R l m->l.length=m.length
 | [],[],_=>rfl
 | _::_,_::_,hh=>by simp [bA.length hh.2]
 | [],_::_,hh=>hh.elim
 | _::_,[],hh=>hh.elim
theorem bA.get:∀ {l:List α} {m:List β},bA R l m -> ∀ {k:Nat} {a:α},l[k]? = some a -> ∃b,m[k]? = some b∧R a b
 | [],[],_,_,_,h=>by simp at h
 | _::_,_::_,hh,0,_,h=>by simp at h;subst h;exact⟨_,aG,hh.1⟩
 | _::_,_::_,hh,k+1,_,h=>by simp at h;simpa using bA.get hh.2 h
 | [],_::_,hh,_,_,_=>hh.elim
 | _::_,[],hh,_,_,_=>hh.elim
theorem bA.cI:∀ {l:List α} {m:List β},l.length=m.length->(∀(k:Nat) a b,l[k]? = some a->m[k]? = some b->R a b)->bA R l m
 | [],[],_,_=>trivial
 | a::l,b::m,hl,h=>⟨h 0 a b aG aG,bA.cI (by simpa using hl) fun k x y hx hy=>h (k+1) x y (by simpa using hx) (by simpa using hy)⟩
 | [],_::_,hl,_=>by simp at hl
 | _::_,[],hl,_=>by simp at hl
theorem bA.append:∀ {l:List α} {m:List β} {l':List α} {m':List β},bA R l m->bA R l' m'->bA R (l++l') (m++m')
 | [],[],_,_,_,h=>by simpa using h
 | _::_,_::_,_,_,hh,h=>⟨hh.1,bA.append hh.2 h⟩
 | [],_::_,_,_,hh,_=>hh.elim
 | _::_,[],_,_,hh,_=>hh.elim
theorem bA.take{l:List α}{m:List β}(h:bA R l m)(n:Nat):bA R (l.take n) (m.take n):=
 bA.cI (by simp [h.length]) fun k a b ha hb=>by
  rw [List.getElem?_take]at ha hb
  split at ha
  ·rename_i hk;rw [if_pos hk]at hb;obtain⟨b',jH,hr⟩:=h.get ha;rw [hb]at jH;cases jH;exact hr
  ·cases ha
theorem bA.drop{l:List α}{m:List β}(h:bA R l m)(n:Nat):bA R (l.drop n) (m.drop n):=
 bA.cI (by simp [h.length]) fun k a b ha hb=>by
  rw [List.getElem?_drop]at ha hb
  obtain⟨b',jH,hr⟩:=h.get ha;rw [hb]at jH;cases jH;exact hr
end aCb
theorem cX{S:eU}{w:World}:∀ {l:List PV} {vs:List Value},b6 S w l vs↔bA (dY S w) l vs
 | [],[]=>by simp [b6,bA]
 | [],_::_=>by simp [b6,bA]
 | p::ps,[]=>by simp [b6,bA]
 | p::ps,v::vs=>by
  simp only [b6,bA]
  constructor
  ·rintro⟨v',yV,h,h1,h2⟩;cases h;exact⟨h1,cX.1 h2⟩
  ·rintro⟨h1,h2⟩;exact⟨v,vs,rfl,h1,cX.2 h2⟩
structure Row where
 ver:Nat
 e:TypeId
 size:Nat
 els:List (List PV)
variable {r:Row}
abbrev Rows:=Nat->Option Row
structure Cx where
 S:eU
 w:World
 β:Nat->Value
 rows:Rows
 used:Nat->Prop
variable {c:Cx}
def aM(c:Cx):PV->Value->Prop
 | .undef,_=>True
 | .own id ver off len,v=>c.used ver ∧ ∀r,c.rows id=some r->r.ver=ver->off+len<=r.els.length ∧
   ((off=0 ∧ ∃a n cap,c.β id = .slice a n cap∧v = .slice a len cap) ∨
    (0<off ∧ ∃g n cap a,c.β id = .slice (some ⟨g,0,none⟩) n cap∧off<=cap∧v = .slice (some a) len (cap-off)∧(len=0∨a=⟨g,off*r.size,none⟩)))
 | .ptr id ver i j,v=>(c.used ver∧v.oneCell'=true) ∧ ∀r,c.rows id=some r->r.ver=ver -> ∃g n cap,c.β id = .slice (some ⟨g,0,none⟩) n cap∧v = .pointer (some ⟨g,i*r.size+j,none⟩)
 | .sL t id ver,v=>(c.used ver∧v.oneCell'=true) ∧ ∀r,c.rows id=some r->r.ver=ver -> ∃g n cap,c.β id = .slice (some ⟨g,0,none⟩) n cap∧v = .iface t (.pointer (some ⟨g,0,none⟩))
 | p,v=>dY c.S c.w p v
def aK(c:Cx):PV->Value->Prop
 | .ag l,v=>∃vs,v = .agg vs.toArray∧bA (aM c) l vs
 | .dK l,v=>∃vs,v = .tuple vs.toArray∧bA (aM c) l vs
 | .rC f fs bR,v=>∃us cs,v = .func (.func f) us.toArray cs.toArray∧bA (aM c) fs us∧bA (aM c) bR cs
 | p,v=>aM c p v
structure avW(w0:World)(c:Cx)(id:Nat)(r:Row):Prop where
 own:∃xs,c.w.ownsRow w0.heap.size r.e r.size (c.β id) r.els.length xs∧bA (aM c) r.els.flatten xs∧(∀x∈xs,x.oneCell'=true)
 len:∀e∈r.els,e.length=r.size
 aCc:∀g o,(c.β id).ownBlock=some g->¬c.S g o
 pos:0<r.size
structure Inv(w0:World)(S0:eU)(c:Cx):Prop where
 below:Below w0.heap.size w0 c.w
 ext:∀b o,S0 b o->c.S b o
 new:∀b o,c.S b o->S0 b o∨(w0.heap.size<=b∧b<c.w.heap.size)
 lt0:∀b o,S0 b o->b<w0.heap.size
 clock:∀id r,c.rows id=some r->c.used r.ver
 row:∀id r,c.rows id=some r->avW w0 c id r
 apart:∀id lC r r' g,c.rows id=some r->c.rows lC=some r'->(c.β id).ownBlock=some g->(c.β lC).ownBlock=some g->id=lC
 fin:∃N,∀v,c.used v->v<N
theorem Inv.lt(h:Inv w0 S0 c)(hb:c.S b o):b<c.w.heap.size:=by
 rcases h.new b o hb with h1 | h1
 ·have:=h.lt0 b o h1;have:=h.below.size;omega
 ·exact h1.2
structure xW(c c':Cx):Prop where
 S:∀b o,c.S b o->c'.S b o
 w:∀b o,c.S b o->c'.w.cell? ⟨b,o,none⟩=c.w.cell? ⟨b,o,none⟩
 clock:∀v,c.used v->c'.used v
 rows:∀id r',c'.rows id=some r'->¬c.used r'.ver ∨ ∃r,c.rows id=some r∧r.ver=r'.ver∧r.size=r'.size∧r.els.length=r'.els.length∧c'.β id=c.β id
theorem xW.refl(c:Cx):xW c c:=⟨fun _ _ h=>h,fun _ _ _=>rfl,fun _ h=>h,fun _ r h => .inr ⟨r,h,rfl,rfl,rfl,rfl⟩⟩
theorem aM.tB{c':Cx}(h:xW c c'):∀(p:PV) (v:Value),aM c p v->aM c' p v:=by
 intro p v hp
 cases p with
 | undef=>simp [aM]
 | own id ver off len =>
  simp only [aM]at hp |-
  refine⟨h.clock _ hp.1,fun r' jO hv=>?_⟩
  rcases h.rows id r' jO with h1 | ⟨r,h1,h2,h3,h4,h5⟩
  ·exact absurd (show c.used r'.ver by rw [hv];exact hp.1) h1
  ·have:=hp.2 r h1 (h2.trans hv)
   rw [h5,<-h3,<-h4];exact this
 | ptr id ver i j =>
  simp only [aM]at hp |-
  refine⟨⟨h.clock _ hp.1.1,hp.1.2⟩,fun r' jO hv=>?_⟩
  rcases h.rows id r' jO with h1 | ⟨r,h1,h2,h3,h4,h5⟩
  ·exact absurd (show c.used r'.ver by rw [hv];exact hp.1.1) h1
  ·have:=hp.2 r h1 (h2.trans hv)
   rw [h5,<-h3];exact this
 | sL t id ver =>
  simp only [aM]at hp |-
  refine⟨⟨h.clock _ hp.1.1,hp.1.2⟩,fun r' jO hv=>?_⟩
  rcases h.rows id r' jO with h1 | ⟨r,h1,h2,h3,h4,h5⟩
  ·exact absurd (show c.used r'.ver by rw [hv];exact hp.1.1) h1
  ·have:=hp.2 r h1 (h2.trans hv)
   rw [h5];exact this
 | _=>simp only [aM]at hp |-;exact dY.mono h.S h.w _ _ hp
theorem aK.tB{c c':Cx}(h:xW c c'):∀(p:PV) (v:Value),aK c p v->aK c' p v:=by
 intro p v hp
 cases p with
 | ag l=>obtain⟨vs,h1,h2⟩:=hp;exact⟨vs,h1,h2.mono (aM.tB h)⟩
 | dK l=>obtain⟨vs,h1,h2⟩:=hp;exact⟨vs,h1,h2.mono (aM.tB h)⟩
 | rC f fs bR=>obtain⟨us,cs,h1,h2,h3⟩:=hp;exact⟨us,cs,h1,h2.mono (aM.tB h),h3.mono (aM.tB h)⟩
 | _=>simp only [aK]at hp |-;exact aM.tB h _ _ hp
def bE:PV->Bool
 | .undef=>false
 | .own .. => false
 | .ptr .. => false
 | .rC .. => false
 | .sL .. => false
 | _=>true
def cY:PV->Bool
 | .ag l=>l.all bE
 | .dK l=>l.all bE
 | p=>bE p
theorem aM.rep(h:aM c p v)(hp:bE p=true):dY c.S c.w p v:=by
 cases p<;>simp_all [bE,aM]
theorem aM.jS(h:dY c.S c.w p v):aM c p v:=by
 cases p<;>simp_all [aM,dY]
theorem aK.rep{c:Cx}{p:PV}{v:Value}(h:aK c p v)(hp:cY p=true):dY c.S c.w p v:=by
 cases p with
 | ag l =>
  obtain⟨vs,h1,h2⟩:=h
  simp only [dY]
  refine⟨vs,h1,cX.2 (bA.cI h2.length fun k a b ha hb=>?_)⟩
  obtain⟨b',jH,hr⟩:=h2.get ha
  rw [hb]at jH;cases jH
  exact hr.rep (List.all_eq_true.1 hp a (List.mem_of_getElem? ha))
 | dK l =>
  obtain⟨vs,h1,h2⟩:=h
  simp only [dY]
  refine⟨vs,h1,cX.2 (bA.cI h2.length fun k a b ha hb=>?_)⟩
  obtain⟨b',jH,hr⟩:=h2.get ha
  rw [hb]at jH;cases jH
  exact hr.rep (List.all_eq_true.1 hp a (List.mem_of_getElem? ha))
 | rC=>simp [cY,bE]at hp
 | _=>simp only [aK]at h;exact aM.rep h hp
theorem aK.jS{c:Cx}{p:PV}{v:Value}(h:dY c.S c.w p v):aK c p v:=by
 cases p with
 | ag l =>
  simp only [dY]at h
  obtain⟨vs,h1,h2⟩:=h
  exact⟨vs,h1,(cX.1 h2).mono fun _ _=>aM.jS⟩
 | dK l =>
  simp only [dY]at h
  obtain⟨vs,h1,h2⟩:=h
  exact⟨vs,h1,(cX.1 h2).mono fun _ _=>aM.jS⟩
 | rC=>simp [dY]at h
 | _=>simp only [aK];exact aM.jS h
theorem Inv.grow(h:Inv w0 S0 c){S':eU}(hb:Below c.w.heap.size c.w w')
  (h1:∀b o,c.S b o->S' b o) (h2:∀b o,S' b o->c.S b o∨(c.w.heap.size<=b∧b<w'.heap.size)) :
  Inv w0 S0 { c with S:=S',w:=w' }∧xW c { c with S:=S',w:=w' }:=by
 have KH:xW c { c with S:=S',w:=w' }:=⟨h1,fun b o hbo=>hb.cell (p:=⟨b,o,none⟩) (h.lt hbo),fun _ h=>h,fun id r hr => .inr ⟨r,hr,rfl,rfl,rfl,rfl⟩⟩
 refine⟨⟨h.below.trans (hb.mono h.below.size),fun b o hh=>h1 b o (h.ext b o hh),fun b o hh=>?_,h.lt0,h.clock,fun id r hr=>?_,h.apart,h.fin⟩,KH⟩
 ·rcases h2 b o hh with h3 | h3
  ·rcases h.new b o h3 with h4 | h4
   ·exact .inl h4
   ·exact .inr ⟨h4.1,by have:=hb.size;show b<w'.heap.size;omega⟩
  ·exact .inr ⟨by have:=h.below.size;omega,h3.2⟩
 ·obtain⟨⟨xs,g1,g2,g3⟩,hlen,hnS,mX⟩:=h.row id r hr
  refine⟨⟨xs,g1.kept (row:=none) ⟨hb.os,hb.tape,hb.output,hb.size,fun k hk _=>hb.block k hk⟩ (by cases (c.β id).ownBlock<;>simp),g2.mono (aM.tB KH),g3⟩,hlen,fun g o hg hS=>?_,mX⟩
  rcases h2 g o hS with h3 | h3
  ·exact hnS g o hg h3
  ·have:=(g1.lt g hg).2;omega
inductive TI where
 | int (k:IntKind)
 | bool
 | str
 | slice (e:TypeId) (n b:Nat) (z:List PV)
 | struct (fs:List (Nat × Nat × Bool)) (z:List PV)
 | arr (e:TypeId) (k n:Nat) (z:List PV)
 | yW
 | fnT
 | other
variable {ti:TI}
def l5:Value->PV
 | .bool b => .bool b
 | .int k n => .int k n
 | .string s => .str s
 | .slice none 0 0 => .nil
 | .func (.func f) ⟨[]⟩ ⟨[]⟩ => .fn f []
 | .pointer none => .nW
 | _ => .undef
def rY:Value->PV
 | .agg cs => .ag (cs.toList.map l5)
 | v=>l5 v
def TI.zero:TI->List PV
 | .int k=>[.int k 0]
 | .bool=>[.bool false]
 | .str=>[.str ⟨#[]⟩]
 | .slice _ _ _ _=>[.nil]
 | .struct _ z=>z
 | .arr _ _ _ z=>z
 | .yW=>[.nW]
 | .fnT=>[.undef]
 | .other=>[]
def TI.agg:TI->Bool
 | .struct _ _=>true
 | .arr _ _ _ _=>true
 | _=>false
def TI.size(t:TI):Nat:=t.zero.length
def TI.known:TI->Bool
 | .other=>false
 | _=>true
def aaF:Option TypeDesc->Bool
 | some (.struct _)=>true
 | some (.array _ _)=>true
 | _=>false
def u4(P:Program)(t:TypeId):Bool:=aaF (P.underlying t)
structure o6(P:Program)(t:TypeId)(n:Nat)(z:List PV):Prop where
 ok:∃i v,P.info? t=some i∧i.zero=some v∧i.size=n∧v.cells.toList.map l5=z∧v.cells.all (·.oneCell')=true
 len:z.length=n
 pos:0<n
structure rD(P:Program)(f:Field)(x:Nat × Nat × Bool):Prop where
 off:f.offset=x.1
 size:∃i,P.info? f.type=some i∧i.size=x.2.1
 pos:0<x.2.1
 agg:u4 P f.type=x.2.2
 und:∃d,P.underlying f.type=some d
def apX:Option TypeDesc->Bool
 | some (.pointer _)=>true
 | _=>false
def fnD:Option TypeDesc->Bool
 | some (.func _ _ _)=>true
 | _=>false
theorem u5(h:apX d=true):∃e,d=some (.pointer e):=by
 unfold apX at h
 split at h
 ·exact⟨_,rfl⟩
 ·cases h
theorem aaG(h:fnD d=true):∃a b c,d=some (.func a b c):=by
 unfold fnD at h
 split at h
 ·exact⟨_,_,_,rfl⟩
 ·cases h
def fN(P:Program)(t:TypeId):TI->Prop
 | .int k=>P.underlying t=some (.int k)∧o6 P t 1 [.int k 0]
 | .bool=>P.underlying t=some .bool∧o6 P t 1 [.bool false]
 | .str=>P.underlying t=some .string∧o6 P t 1 [.str ⟨#[]⟩]
 | .slice e n b z=>P.underlying t=some (.slice e)∧o6 P t 1 [.nil]∧o6 P e n z ∧ ∃i,P.info? e=some i∧i.bytes=b
 | .struct fs z=>(∃fields:Array Field,P.underlying t=some (.struct fields)∧bA (rD P) fields.toList fs)∧o6 P t z.length z
 | .arr e k n z=>P.underlying t=some (.array k e)∧o6 P t z.length z ∧ ∃i,P.info? e=some i∧i.size=n
 | .yW=>apX (P.underlying t)=true∧o6 P t 1 [.nW]
 | .fnT=>fnD (P.underlying t)=true∧o6 P t 1 [.undef]
 | .other=>True
structure Env where
 P:Program
 ty:TypeId->TI
 ok:∀t,fN P t (ty t)
 mixed:P.follows .mixedOrders=true
 writes:FuncId->Bool
 uT:FuncId->Bool
theorem fN.zero(h:fN P t ti)(hk:ti.known=true):o6 P t ti.size ti.zero:=by
 cases ti with
 | other=>simp [TI.known]at hk
 | struct fs z=>exact h.2
 | slice e n b z=>exact h.2.1
 | arr e k n z=>exact h.2.1
 | _=>exact h.2
theorem fN.avZ(h:fN P t ti)(hk:ti.known=true):u4 P t=ti.agg:=by
 unfold u4
 cases ti with
 | other=>simp [TI.known]at hk
 | struct fs z=>obtain⟨⟨f,h1,_⟩,_⟩:=h;rw [h1];rfl
 | slice e n b z=>rw [h.1];rfl
 | arr e k n z=>rw [h.1];rfl
 | int k=>rw [h.1];rfl
 | bool=>rw [h.1];rfl
 | str=>rw [h.1];rfl
 | yW=>obtain⟨e,he⟩:=u5 h.1;rw [he];rfl
 | fnT=>obtain⟨a,b,c,he⟩:=aaG h.1;rw [he];rfl
theorem fN.und(h:fN P t ti)(hk:ti.known=true):∃d,P.underlying t=some d:=by
 cases ti with
 | other=>simp [TI.known]at hk
 | struct fs z=>obtain⟨⟨f,h1,_⟩,_⟩:=h;exact⟨_,h1⟩
 | slice e n b z=>exact⟨_,h.1⟩
 | arr e k n z=>exact⟨_,h.1⟩
 | int k=>exact⟨_,h.1⟩
 | bool=>exact⟨_,h.1⟩
 | str=>exact⟨_,h.1⟩
 | yW=>obtain⟨e,he⟩:=u5 h.1;exact⟨_,he⟩
 | fnT=>obtain⟨a,b,c,he⟩:=aaG h.1;exact⟨_,he⟩
section runs
variable {P:Program} {w:World}
theorem p7{d:TypeDesc}(h:P.underlying t=some d):(isAgg t).run P w = .ok (u4 P t) w:=by
 unfold u4
 simp only [isAgg,Sem.run_bind,run_underlying h,Result.andThen_ok,h]
 cases d<;>rfl
theorem dP{i:TypeInfo}(h:P.info? t=some i):(Go.sizeOf t).run P w = .ok i.size w:=by simp [Go.sizeOf,typeInfo,h]
end runs
structure PS where
 f:Nat->PV
 rows:Rows
 clock:Nat
def put(f:Nat->PV)(d:Option Tmp)(v:PV):Nat->PV:=
 match d with
 | some d=>fun j=>if j=d then v else f j
 | none=>f
def PS.put(σ:PS)(d:Option Tmp)(v:PV):PS:={ σ with f:=Pm.put σ.f d v }
def aR(f:Nat->PV):Operand->PV
 | .tmp t=>f t
 | .const v=>rY v
 | .func g => .fn g []
 | .global _ => .undef
def fz(rows:Rows):PV->PV
 | .own id ver off len =>
  match rows id with
  | some r=>if r.ver=ver then .sl ((r.els.drop off).take len)else .undef
  | none => .undef
 | .ptr id ver i j =>
  match rows id with
  | some r=>if r.ver=ver then .rd ((r.els.getD i []).drop j)else .undef
  | none => .undef
 | .nil => .sl []
 | .kJ l => .sl l
 | p=>p
def pz(rows:Rows):PV->PV
 | .ag l => .ag (l.map (fz rows))
 | .dK l => .dK (l.map (fz rows))
 | p=>fz rows p
def a9:PV->List Nat
 | .own id _ _ _=>[id]
 | .ptr id _ _ _=>[id]
 | .sL _ id _=>[id]
 | _=>[]
def eK:PV->List Nat
 | .ag l=>l.flatMap a9
 | .dK l=>l.flatMap a9
 | .rC _ fs bR=>(fs++bR).flatMap a9
 | p=>a9 p
def AB(P:Program)(f:FuncId)(args:List PV)(r:PV):Prop:=
 (∃fn c,P.funcs[f]? = some fn∧fn.body=some c∧(fn.name == "runtime.NumGoroutine")=false) ∧
 ∀(w:World) (S:eU) (vs:List Value),(∀b o,S b o->b<w.heap.size)->b6 S w args vs ->
  Calls P f vs.toArray w fun e w'=>∃v,e = .returned v∧Below w.heap.size w w' ∧
   ∃S':eU,(∀b o,S b o->S' b o)∧(∀b o,S' b o->S b o∨(w.heap.size<=b∧b<w'.heap.size))∧dY S' w' r v
def u6(k:IntKind)(a b:Int):Int:=k.wrap (((BitVec.ofInt k.bits a) ||| (BitVec.ofInt k.bits b)).toNat:Int)
def afs(k:IntKind)(a b:Int):Int:=k.wrap (((BitVec.ofInt k.bits a) &&& (BitVec.ofInt k.bits b)).toNat:Int)
def mY:List PV->List Int
 | .int _ n::r=>n::mY r
 | _=>[]
def allI:List PV->Bool
 | []=>true
 | .int .i64 _::r=>allI r
 | _=>false
def iV(n:Int):Value:=.int .i64 n
structure akw(P:Program)(t:TypeId)(n:Nat):Prop where
 run:∀(w:World) (xs ys:List Int),xs.length=n->ys.length=n->(Op.equal t (.agg (xs.map iV).toArray) (.agg (ys.map iV).toArray)).run P w = .ok (decide (xs=ys)) w
 guard:P.eqGuardType P.depth t=false
def NU(E:Env)(op:BinOp)(t:TypeId)(x y v:PV):Prop:=
 match x,y with
 | .ag a, .ag b =>
  match op with
  | .eql=>(akw E.P t a.length∧allI a=true∧allI b=true∧b.length=a.length)∧v = .bool (decide (mY a=mY b))
  | .neq=>(akw E.P t a.length∧allI a=true∧allI b=true∧b.length=a.length)∧v = .bool (!decide (mY a=mY b))
  | _=>False
 | .int k a, .int k2 b =>
  match op with
  | .add=>k=k2∧v = .int k (k.wrap (a+b))
  | .sub=>k=k2∧v = .int k (k.wrap (a-b))
  | .mul=>k=k2∧v = .int k (k.wrap (a*b))
  | .quo=>k=k2∧b≠0∧v = .int k (k.wrap (a.tdiv b))
  | .rem=>k=k2∧b≠0∧v = .int k (a.tmod b)
  | .shl=>0<=b∧v = .int k (k.wrap (a*2^(min b.toNat k.bits)))
  | .shr=>0<=b∧v = .int k (a.fdiv (2^(min b.toNat k.bits)))
  | .or=>k=k2∧v = .int k (u6 k a b)
  | .and=>k=k2∧v = .int k (afs k a b)
  | .eql=>k=k2∧v = .bool (a==b)
  | .neq=>k=k2∧v = .bool (a != b)
  | .lss=>k=k2∧v = .bool (decide (a<b))
  | .leq=>k=k2∧v = .bool (decide (a<=b))
  | .gtr=>k=k2∧v = .bool (decide (b<a))
  | .geq=>k=k2∧v = .bool (decide (b<=a))
  | _=>False
 | .bool a, .bool b =>
  match op with
  | .eql=>E.ty t = .bool∧v = .bool (a==b)
  | .neq=>E.ty t = .bool∧v = .bool (a != b)
  | _=>False
 | .nW, .nW =>
  match op with
  | .eql=>E.ty t = .yW∧v = .bool true
  | .neq=>E.ty t = .yW∧v = .bool false
  | _=>False
 | .rd _, .nW =>
  match op with
  | .eql=>E.ty t = .yW∧v = .bool false
  | .neq=>E.ty t = .yW∧v = .bool true
  | _=>False
 | _,_=>False
def x9(E:Env)(t:TypeId)(rows:Rows)(p v:PV):Prop:=
 (E.ty t).known=true ∧
 match p with
 | .rd l=>if (E.ty t).agg=true then(E.ty t).size<=l.length∧v = .ag (l.take (E.ty t).size)else l[0]? = some v
 | .ptr id ver i j=>∃r,rows id=some r∧r.ver=ver ∧ ∃el,r.els[i]? = some el ∧
   (if (E.ty t).agg=true then j+(E.ty t).size<=el.length∧v = .ag ((el.drop j).take (E.ty t).size)else el[j]? = some v)
 | _=>False
def yX(E:Env)(t:TypeId)(i:Nat)(x v:PV):Prop:=
 match E.ty t with
 | .struct fs _=>∃o n b,fs[i]? = some (o,n,b) ∧
  match x with
  | .ag l=>if b=true then v = .ag ((l.drop o).take n)else l[o]? = some v
  | _=>False
 | _=>False
def iK(E:Env)(t:TypeId)(rows:Rows)(i:Nat)(x v:PV):Prop:=
 match E.ty t with
 | .struct fs _=>∃o n b,fs[i]? = some (o,n,b) ∧
  match x with
  | .rd l=>o<=l.length∧v = .rd (l.drop o)
  | .ptr id ver a j=>(∃r,rows id=some r∧r.ver=ver)∧v = .ptr id ver a (j+o)
  | _=>False
 | _=>False
def iL(E:Env)(t:TypeId)(rows:Rows)(x ix v:PV):Prop:=
 match E.ty t with
 | .slice _ n _ _ =>
  match ix with
  | .int _ k=>0<=k ∧
   match x with
   | .sl l=>∃el,l[k.toNat]? = some el∧(∀e∈l,e.length=n)∧v = .rd el
   | .kJ l=>∃el,l[k.toNat]? = some el∧(∀e∈l,e.length=n)∧v = .rd el
   | .own id ver off len=>∃r,rows id=some r∧r.ver=ver∧r.size=n∧k.toNat<len∧v = .ptr id ver (off+k.toNat) 0
   | _=>False
  | _=>False
 | .arr _ m n _ =>
  match ix with
  | .int _ k=>(0<=k∧k.toNat<m) ∧
   match x with
   | .rd l=>k.toNat*n<=l.length∧v = .rd (l.drop (k.toNat*n))
   | .ptr id ver a j=>(∃r,rows id=some r∧r.ver=ver)∧v = .ptr id ver a (j+k.toNat*n)
   | _=>False
  | _=>False
 | _=>False
def AD(d:Nat):Option PV->Nat->Prop
 | none,n=>n=d
 | some (.int _ k),n=>0<=k∧n=k.toNat
 | some _,_=>False
def WS(l:List (List PV))(a b:Nat)(hi mx:Option PV)(v:PV):Prop:=
 match mx with
 | none=>v = .sl ((l.take b).drop a)
 | some m=>∃c,AD 0 (some m) c∧b=c∧hi.isSome=true∧v = .kJ ((l.take b).drop a)
def rZ(E:Env)(t:TypeId)(rows:Rows)(x:PV)(lo hi mx:Option PV)(v:PV):Prop:=
 match E.ty t with
 | .slice _ n _ _ =>
  match x with
  | .nil=>∃a b,AD 0 lo a∧AD 0 hi b∧a=0∧b=0∧mx.isNone=true∧v = .nil
  | .sl l=>∃a b,AD 0 lo a∧AD l.length hi b∧a<=b∧b<=l.length∧(∀e∈l,e.length=n) ∧
   WS l a b hi mx v
  | .kJ l=>∃a b,AD 0 lo a∧AD l.length hi b∧a<=b∧b<=l.length∧(∀e∈l,e.length=n) ∧
   WS l a b hi mx v
  | .own id ver off len=>∃r,rows id=some r∧r.ver=ver∧r.size=n ∧ ∃a b,AD 0 lo a∧AD len hi b∧a<=b∧b<=len∧mx.isNone=true∧v = .own id ver (off+a) (b-a)
  | _=>False
 | _=>False
def acO(rows:Rows)(x:PV)(n:Nat):Prop:=
 match x with
 | .nil=>n=0
 | .sl l=>n=l.length
 | .kJ l=>n=l.length
 | .own id ver _ len=>(∃r,rows id=some r∧r.ver=ver)∧n=len
 | _=>False
def gB:PV->Option (List PV)
 | .ag l=>some l
 | .bool b=>some [.bool b]
 | .int k n=>some [.int k n]
 | .str s=>some [.str s]
 | .nW=>some [.nW]
 | .nil=>some [.nil]
 | .sl l=>some [.sl l]
 | .kJ l=>some [.kJ l]
 | .rd l=>some [.rd l]
 | .fn f l=>some [.fn f l]
 | .ptr a b i j=>some [.ptr a b i j]
 | .sL t a b=>some [.sL t a b]
 | _=>none
def yA(fs:List (Nat × Nat × Bool)):List (Nat × PV)->List PV->Option (List PV)
 | [],z=>some z
 | (i,p)::ps,z =>
  match fs[i]?,gB p with
  | some (o,n,_),some l=>if l.length=n∧o+n<=z.length then yA fs ps (z.take o++l++z.drop (o+n))else none
  | _,_=>none
def yun(op:UnOp)(x v:PV):Prop:=
 match op,x with
 | .not, .bool b=>v = .bool (!b)
 | .neg, .int k n=>v = .int k (k.wrap (0-n))
 | _,_=>False
def yB(s d:TI)(x v:PV):Prop:=
 match s,d,x with
 | .int _, .int k, .int _ n=>v = .int k (k.wrap n)
 | _,_,_=>False
def WT(i:Nat)(x v:PV):Prop:=
 match x with
 | .dK l=>l[i]? = some v
 | _=>False
def WU(k n:Nat):List (Nat × Nat × Bool):=(List.range k).map fun i=>(i*n,n,false)
def u7(t:TI)(parts:List (Nat × PV))(v:PV):Prop:=
 match t with
 | .struct fs z=>∃l,yA fs parts z=some l∧v = .ag l
 | .arr _ k n z=>∃l,yA (WU k n) parts z=some l∧v = .ag l
 | _=>False
def yY(E:Env)(t:TI)(x ix v:PV):Prop:=
 match t,x,ix with
 | .arr e m n _, .ag l, .int _ k=>((E.ty e).known=true∧(E.ty e).agg=false∧n=1∧(0<=k∧k.toNat<m)∧k.toNat<l.length)∧v=l.getD k.toNat .undef
 | .str, .str s, .int _ k=>0<=k ∧ ∃b,s[k.toNat]? = some b∧v = .int .u8 b.toNat
 | _,_,_=>False
def D3(t:TI)(rows:Rows)(x v:PV):Prop:=
 match t with
 | .slice _ _ _ _=>∃n,acO rows x n∧v = .int .i64 n
 | _=>False
def WV(x y v:PV):Prop:=
 match x,y with
 | .int k a, .int _ b=>v = .int k (if b>a then b else a)
 | _,_=>False
def WW(x y v:PV):Prop:=
 match x,y with
 | .int k a, .int _ b=>v = .int k (if b<a then b else a)
 | _,_=>False
def KI(rows:Rows)(x v:PV):Prop:=
 match x with
 | .rd l=>v = .rd l
 | .ptr id ver i j=>(∃r,rows id=some r∧r.ver=ver)∧v = .ptr id ver i j
 | _=>False
def pE:PV->Bool
 | .ag _=>false
 | .dK _=>false
 | .rC .. => false
 | _=>true
theorem acP(h:aK c p v)(hc:pE p=true):aM c p v:=by
 cases p with
 | ag=>cases hc
 | dK=>cases hc
 | rC=>cases hc
 | _=>exact h
def yv(E:Env)(op:Op)(ρ:Operand->PV)(rows:Rows)(v:PV):Prop:=
 match op with
 | .move x=>v=ρ x
 | .assign x=>v=ρ x
 | .pick c a b=>∃t,ρ c = .bool t∧v=if t=true then ρ a else ρ b
 | .binOp op t x y _=>NU E op t (ρ x) (ρ y) v
 | .unOp op _ x=>yun op (ρ x) v
 | .convert s d x=>yB (E.ty s) (E.ty d) (ρ x) v
 | .extract x i=>WT i (ρ x) v
 | .load t p=>x9 E t rows (ρ p) v
 | .field t x i=>yX E t i (ρ x) v
 | .fieldAddr t x i=>iK E t rows i (ρ x) v
 | .indexAddr t x ix=>iL E t rows (ρ x) (ρ ix) v
 | .slice t x lo hi mx=>rZ E t rows (ρ x) (lo.map ρ) (hi.map ρ) (mx.map ρ) v
 | .build t parts=>u7 (E.ty t) (parts.toList.map fun x=>(x.1,ρ x.2)) v
 | .index t x ix=>yY E (E.ty t) (ρ x) (ρ ix) v
 | .makeFunc (.func f) fs bR=>if E.uT f=true then((fs.toList.map fun x=>ρ x).all pE=true∧(bR.toList.map fun x=>ρ x).all pE=true)∧v = .rC f (fs.toList.map fun x=>ρ x) (bR.toList.map fun x=>ρ x)
  else(fs.toList = []∧(bR.toList.map fun x=>ρ x).all cY=true)∧v = .fn f (bR.toList.map fun x=>ρ x)
 | .call { callee:=.builtin .len,args:=⟨[x]⟩,argTypes:=⟨[t]⟩ }=>D3 (E.ty t) rows (ρ x) v
 | .call { callee:=.builtin .max,args:=⟨[x,y]⟩,argTypes:=_ }=>WV (ρ x) (ρ y) v
 | .call { callee:=.builtin .min,args:=⟨[x,y]⟩,argTypes:=_ }=>WW (ρ x) (ρ y) v
 | .nilCheck x=>KI rows (ρ x) v
 | .makeInterface t x=>E.ty t = .yW ∧ ∃id ver,ρ x = .ptr id ver 0 0∧v = .sL t id ver
 | _=>False
theorem n3:∀v:Value,aM c (l5 v) v:=by
 intro v
 unfold l5
 split<;>first
  | (simp [aM,dY];done)
  | (simp only [aM,dY];exact⟨[],rfl,by simp [b6]⟩)
theorem WX(v:Value):aK c (rY v) v:=by
 unfold rY
 split
 ·rename_i cs
  simp only [aK]
  refine⟨cs.toList,aG,bA.cI aG fun k a b ha hb=>?_⟩
  simp at ha
  obtain⟨u,hu,rfl⟩:=ha
  have:cs.toList[k]? = some u:=by simpa using hu
  rw [this]at hb;cases hb
  exact n3 _
 ·rename_i h
  have h1:=n3 (c:=c) v
  revert h1
  unfold l5
  split<;>simp [aK]
theorem pI(h:∀s,aK c (f s) (a.tmps.getD s undef))(x:Operand):aK c (aR f x) (a.eval x):=by
 cases x with
 | tmp t=>exact h t
 | const v=>exact WX v
 | global g=>simp [aR,aK,aM]
 | func g=>simp only [aR,aK,aM,dY,Act.eval];exact⟨[],rfl,by simp [b6]⟩
section
variable {E:Env} {c:Cx}
theorem c7{k:IntKind}{n:Int}:aK c (.int k n) v↔v = .int k n:=by simp [aK,aM,dY]
theorem eD{b:Bool}:aK c (.bool b) v↔v = .bool b:=by simp [aK,aM,dY]
theorem run_equalIn_bool(h:P.underlying t=some .bool)(d:Nat)(a b:Bool) :
  (Op.equalIn (d+1) t (.bool a) (.bool b)).run P w = .ok (a==b) w:=by simp [Op.equalIn,run_underlying h]
theorem run_equal_bool(h:P.underlying t=some .bool)(a b:Bool) :
  (Op.equal t (.bool a) (.bool b)).run P w = .ok (a==b) w:=run_equalIn_bool h 9999 a b
theorem run_eql_bool(h:P.underlying t=some .bool)(a b:Bool) :
  (binOp .eql t (.bool a) (.bool b)).run P w = .ok (.bool (a==b)) w:=by
 show(do pure (Value.bool (<-Op.equal t (.bool a) (.bool b))):Sem Value).run P w=_
 simp [run_equal_bool h]
theorem run_neq_bool(h:P.underlying t=some .bool)(a b:Bool) :
  (binOp .neq t (.bool a) (.bool b)).run P w = .ok (.bool (a != b)) w:=by
 show(do pure (Value.bool (!(<-Op.equal t (.bool a) (.bool b)))):Sem Value).run P w=_
 simp [run_equal_bool h];cases a<;>cases b<;>rfl
theorem FC(h:P.underlying t=some (.pointer e))(d:Nat):(Op.equalIn (d+1) t (.pointer none) (.pointer none)).run P w = .ok true w:=by simp [Op.equalIn,run_underlying h]
theorem CW{a:Addr}(h:P.underlying t=some (.pointer e))(d:Nat):(Op.equalIn (d+1) t (.pointer (some a)) (.pointer none)).run P w = .ok false w:=by simp [Op.equalIn,run_underlying h]
theorem yC(h:P.underlying t=some (.pointer e)):(Op.equal t (.pointer none) (.pointer none)).run P w = .ok true w:=by
 exact FC h 9999
theorem u9{a:Addr}(h:P.underlying t=some (.pointer e)):(Op.equal t (.pointer (some a)) (.pointer none)).run P w = .ok false w:=by
 exact CW h 9999
theorem D4{x:Option Addr}{b:Bool}(h:(Op.equal t (.pointer x) (.pointer none)).run P w = .ok b w):(binOp .eql t (.pointer x) (.pointer none)).run P w = .ok (.bool b) w:=by
 show(do pure (Value.bool (<-Op.equal t (.pointer x) (.pointer none))):Sem Value).run P w=_
 simp [h]
theorem D5{x:Option Addr}{b:Bool}(h:(Op.equal t (.pointer x) (.pointer none)).run P w = .ok b w):(binOp .neq t (.pointer x) (.pointer none)).run P w = .ok (.bool (!b)) w:=by
 show(do pure (Value.bool (!(<-Op.equal t (.pointer x) (.pointer none)))):Sem Value).run P w=_
 simp [h]
theorem R3:aK c .nW v↔v = .pointer none:=by simp [aK,aM,dY]
theorem GR:∀ {l:List PV} {vs:List Value},allI l=true->bA (aM c) l vs->vs=(mY l).map iV∧(mY l).length=l.length
 | [],[],_,_=>⟨rfl,rfl⟩
 | [],_::_,_,h=>h.elim
 | p::l,[],_,h=>h.elim
 | p::l,v::vs,ha,h=>by
  unfold allI at ha
  split at ha
  ·rename_i heq;cases heq
  ·rename_i n r heq
   simp only [List.cons.injEq]at heq
   obtain⟨rfl,rfl⟩:=heq
   obtain⟨h1,h2⟩:=GR ha h.2
   have hv:v = .int .i64 n:=by simpa [aM,dY]using h.1
   exact⟨by rw [h1,hv];rfl,by simp [mY,h2]⟩
  ·cases ha
theorem aaH{op:BinOp}{a b:List PV}(hx:aK c (.ag a) vx)(hy:aK c (.ag b) vy)(h:akw E.P t a.length∧allI a=true∧allI b=true∧b.length=a.length) :
  (do eqGuard .eql t ox oy vx vy;binOp .eql t vx vy:Sem Value).run E.P c.w = .ok (.bool (decide (mY a=mY b))) c.w∧(do eqGuard .neq t ox oy vx vy;binOp .neq t vx vy:Sem Value).run E.P c.w = .ok (.bool (!decide (mY a=mY b))) c.w:=by
 obtain⟨h1,h2,h3,h4⟩:=h
 obtain⟨xs,rfl,g1⟩:=hx
 obtain⟨ys,rfl,g2⟩:=hy
 obtain⟨rfl,q1⟩:=GR h2 g1
 obtain⟨rfl,q2⟩:=GR h3 g2
 have hr:=h1.run c.w (mY a) (mY b) q1 (by rw [q2,h4])
 have hg:∀op,(eqGuard op t ox oy (.agg ((mY a).map iV).toArray) (.agg ((mY b).map iV).toArray)).run E.P c.w = .ok () c.w:=by
  intro op
  unfold eqGuard
  cases op<;>simp [h1.guard]
 constructor
 ·rw [Sem.run_bind,hg,Result.andThen_ok]
  show(do pure (Value.bool (<-Op.equal t _ _)):Sem Value).run E.P c.w=_
  simp [hr]
 ·rw [Sem.run_bind,hg,Result.andThen_ok]
  show(do pure (Value.bool (!(<-Op.equal t _ _))):Sem Value).run E.P c.w=_
  simp [hr]
theorem aft{op:BinOp}{y v:PV}(hx:aK c x vx)(hy:aK c y vy)(h:NU E op t x y v) :
  ∃v',(do eqGuard op t ox oy vx vy;binOp op t vx vy:Sem Value).run E.P c.w = .ok v' c.w∧aK c v v':=by
 unfold NU at h
 split at h
 ·cases op<;>simp only at h
  case eql=>obtain⟨h1,rfl⟩:=h;exact⟨_,(aaH (op:=.eql) hx hy h1).1,eD.2 rfl⟩
  case neq=>obtain⟨h1,rfl⟩:=h;exact⟨_,(aaH (op:=.eql) hx hy h1).2,eD.2 rfl⟩
  all_goals exact False.elim h
 ·rename_i k a k2 b
  rw [c7]at hx hy
  subst hx hy
  cases op<;>simp only at h
  case shl=>obtain⟨h1,rfl⟩:=h;exact⟨_,by simp [eqGuard,binOp,Op.shift,show ¬b<0 by omega],c7.2 rfl⟩
  case shr=>obtain⟨h1,rfl⟩:=h;exact⟨_,by simp [eqGuard,binOp,Op.shift,show ¬b<0 by omega],c7.2 rfl⟩
  case quo=>obtain⟨rfl,h1,rfl⟩:=h;exact⟨_,by simp [eqGuard,binOp,Op.intDiv,h1],c7.2 rfl⟩
  case rem=>obtain⟨rfl,h1,rfl⟩:=h;exact⟨_,by simp [eqGuard,binOp,Op.intDiv,h1],c7.2 rfl⟩
  case add=>obtain⟨rfl,rfl⟩:=h;exact⟨_,by simp [eqGuard,binOp,Op.intArith],c7.2 rfl⟩
  case sub=>obtain⟨rfl,rfl⟩:=h;exact⟨_,by simp [eqGuard,binOp,Op.intArith],c7.2 rfl⟩
  case mul=>obtain⟨rfl,rfl⟩:=h;exact⟨_,by simp [eqGuard,binOp,Op.intArith],c7.2 rfl⟩
  case or=>obtain⟨rfl,rfl⟩:=h;exact⟨_,by simp [eqGuard,binOp,Op.intBits,u6],c7.2 rfl⟩
  case and=>obtain⟨rfl,rfl⟩:=h;exact⟨_,by simp [eqGuard,binOp,Op.intBits,afs],c7.2 rfl⟩
  case eql=>obtain⟨rfl,rfl⟩:=h;exact⟨_,by simp [eqGuard,binOp,Op.intCmp],eD.2 rfl⟩
  case neq=>obtain⟨rfl,rfl⟩:=h;exact⟨_,by simp [eqGuard,binOp,Op.intCmp],eD.2 rfl⟩
  case lss=>obtain⟨rfl,rfl⟩:=h;exact⟨_,by simp [eqGuard,binOp,Op.intCmp],eD.2 rfl⟩
  case leq=>obtain⟨rfl,rfl⟩:=h;exact⟨_,by simp [eqGuard,binOp,Op.intCmp],eD.2 rfl⟩
  case gtr=>obtain⟨rfl,rfl⟩:=h;exact⟨_,by simp [eqGuard,binOp,Op.intCmp],eD.2 rfl⟩
  case geq=>obtain⟨rfl,rfl⟩:=h;exact⟨_,by simp [eqGuard,binOp,Op.intCmp],eD.2 rfl⟩
  all_goals exact False.elim h
 ·rename_i a b
  rw [eD]at hx hy
  subst hx hy
  have hb:E.ty t = .bool->E.P.underlying t=some .bool:=fun he=>by have:=E.ok t;rw [he]at this;exact this.1
  cases op<;>simp only at h
  case eql=>obtain⟨h1,rfl⟩:=h;exact⟨_,by simp [eqGuard,run_eql_bool (hb h1)],eD.2 rfl⟩
  case neq=>obtain⟨h1,rfl⟩:=h;exact⟨_,by simp [eqGuard,run_neq_bool (hb h1)],eD.2 rfl⟩
  all_goals exact False.elim h
 ·rw [R3]at hx hy
  subst hx hy
  have hb:E.ty t = .yW -> ∃e,E.P.underlying t=some (.pointer e):=fun he=>by have:=E.ok t;rw [he]at this;exact u5 this.1
  cases op<;>simp only at h
  case eql=>obtain⟨h1,rfl⟩:=h;obtain⟨e,he⟩:=hb h1;exact⟨_,by simp [eqGuard,D4 (yC he)],eD.2 rfl⟩
  case neq=>obtain⟨h1,rfl⟩:=h;obtain⟨e,he⟩:=hb h1;exact⟨_,by simp [eqGuard,D5 (yC he)],eD.2 rfl⟩
  all_goals exact False.elim h
 ·rw [R3]at hy
  simp only [aK,aM,dY]at hx
  obtain⟨b,o,rfl,_⟩:=hx
  subst hy
  have hb:E.ty t = .yW -> ∃e,E.P.underlying t=some (.pointer e):=fun he=>by have:=E.ok t;rw [he]at this;exact u5 this.1
  cases op<;>simp only at h
  case eql=>obtain⟨h1,rfl⟩:=h;obtain⟨e,he⟩:=hb h1;exact⟨_,by simp [eqGuard,D4 (u9 he)],eD.2 rfl⟩
  case neq=>obtain⟨h1,rfl⟩:=h;obtain⟨e,he⟩:=hb h1;exact⟨_,by simp [eqGuard,D5 (u9 he)],eD.2 rfl⟩
  all_goals exact False.elim h
 ·exact False.elim h
theorem kK{S:eU}{w:World}:∀ {l:List PV} {b o:Nat},eB S w b o l -> ∀ {k:Nat} {p:PV},l[k]? = some p -> ∃v,w.cell? ⟨b,o+k,none⟩=some v∧S b (o+k)∧v.oneCell'=true∧dY S w p v
 | [],_,_,_,_,_,h=>by simp at h
 | q::l,b,o,hr,0,p,h=>by simp at h;subst h;exact hr.1
 | q::l,b,o,hr,k+1,p,h=>by
  have:=kK hr.2 (k:=k) (by simpa using h)
  rw [show o+1+k=o+(k+1)by omega]at this;exact this
theorem mE{S:eU}{w:World}:∀ {l:List PV} {b o:Nat},(∀k p,l[k]? = some p -> ∃v,w.cell? ⟨b,o+k,none⟩=some v∧S b (o+k)∧v.oneCell'=true∧dY S w p v)->eB S w b o l
 | [],_,_,_=>trivial
 | q::l,b,o,h=>⟨by simpa using h 0 q aG,mE fun k p hp=>by
   have:=h (k+1) p (by simpa using hp)
   rw [show o+(k+1)=o+1+k by omega]at this;exact this⟩
theorem yD(h:eB S w b o l)(d:Nat):eB S w b (o+d) (l.drop d):=
 mE fun k p hp=>by
  rw [List.getElem?_drop]at hp
  have:=kK h hp
  rw [show o+(d+k)=o+d+k by omega]at this;exact this
theorem lF(b o k:Nat):(⟨b,o,none⟩:Addr).add k=⟨b,o+k,none⟩:=by unfold Addr.add;split<;>simp_all
theorem l6{S:eU}{w:World}{n:Nat}:∀ {l:List (List PV)} {b o:Nat},iJ S w b o l->(∀e∈l,e.length=n) -> ∀ {k:Nat} {e:List PV},l[k]? = some e->eB S w b (o+k*n) e
 | [],_,_,_,_,_,_,h=>by simp at h
 | q::l,b,o,hr,_,0,p,h=>by simp at h;subst h;simpa using hr.1
 | q::l,b,o,hr,hn,k+1,p,h=>by
  have:=l6 hr.2 (fun e he=>hn e (by simp [he])) (k:=k) (by simpa using h)
  rw [hn q aG,show o+n+k*n=o+(k+1)*n by rw [Nat.add_mul];omega]at this;exact this
theorem sM{S:eU}{w:World}{n:Nat}:∀ {l:List (List PV)} {b o:Nat},(∀e∈l,e.length=n)->(∀k e,l[k]? = some e->eB S w b (o+k*n) e)->iJ S w b o l
 | [],_,_,_,_=>trivial
 | q::l,b,o,hn,h=>⟨by simpa using h 0 q aG,sM (n:=n) (fun e he=>hn e (by simp [he])) fun k e hk=>by
   have:=h (k+1) e (by simpa using hk)
   rw [hn q aG,show o+n+k*n=o+(k+1)*n by rw [Nat.add_mul];omega];exact this⟩
theorem GS(ht:fN P t ti)(hk:ti.known=true){vs:List Value}(hl:vs.length=ti.size)
  (h:∀k v,vs[k]? = some v->w.cell? ⟨b,o+k,none⟩=some v) :
  (Instr.loadAt t (.pointer (some ⟨b,o,none⟩))).run P w = .ok (if ti.agg=true then .agg vs.toArray else vs.getD 0 undef) w:=by
 obtain⟨d,hd⟩:=ht.und hk
 obtain⟨i,z,hi,_,hs,_,_⟩:=(ht.zero hk).ok
 have rE:i.size=vs.length:=by rw [hs,hl]
 simp only [Instr.loadAt,Instr.sureAddr,Sem.run_bind,Sem.run_pure,Result.andThen_ok,loadVar,p7 hd,ht.avZ hk]
 by_cases ha:ti.agg=true
 ·simp only [ha,if_true,Sem.run_bind,dP hi,Result.andThen_ok,rE]
  rw [run_loadCells_list (P:=P) w ⟨b,o,none⟩ vs (fun j v hj=>by rw [lF];exact h j v hj)]
  simp
 ·have RN:ti.agg=false:=by simpa using ha
  simp only [RN]
  have h1:vs.length=1:=by
   rw [hl];cases ti<;>simp_all [TI.agg,TI.size,TI.zero,TI.known]
  match vs,h1 with
  | [x],_ =>
   have:=h 0 x aG
   simp [load,Sem.run,show w.cell? ⟨b,o,none⟩=some x by simpa using this]
end
theorem mF{α:Type}{n:Nat}:∀ {l:List (List α)},(∀e∈l,e.length=n) -> ∀ {i:Nat} {e:List α},l[i]? = some e -> ∀ {j:Nat} {p:α},e[j]? = some p->l.flatten[i*n+j]? = some p
 | [],_,_,_,h,_,_,_=>by simp at h
 | q::l,hn,0,e,h,j,p,hp=>by
  simp at h;subst h
  have hj:j<q.length:=(List.getElem?_eq_some_iff.1 hp).1
  simp [List.getElem?_append_left hj,hp]
 | q::l,hn,i+1,e,h,j,p,hp=>by
  have:=mF (l:=l) (n:=n) (fun e he=>hn e (by simp [he])) (i:=i) (by simpa using h) hp
  have hq:q.length=n:=hn q aG
  rw [List.flatten_cons,List.getElem?_append_right (by rw [hq,Nat.add_mul];omega),hq,show(i+1)*n+j-n=i*n+j by rw [Nat.add_mul];omega]
  exact this
section
variable {E:Env} {c:Cx} {w0:World} {S0:eU}
theorem AJ(hI:Inv w0 S0 c)(hr:c.rows id=some r)(hβ:c.β id = .slice (some ⟨g,0,none⟩) n cap){el:List PV}(hi:r.els[i]? = some el)(hj:el[j]? = some p) :
  ∃v,c.w.cell? ⟨g,i*r.size+j,none⟩=some v∧v.oneCell'=true∧aM c p v:=by
 obtain⟨⟨xs,h1,h2,h3⟩,hlen,_,mX⟩:=hI.row id r hr
 have hf:=mF hlen hi hj
 obtain⟨v,hv,gE⟩:=h2.get hf
 have hn:n=r.els.length:=by
  rw [hβ]at h1
  rcases h1.2 with ⟨h,_⟩ | ⟨g',l7,cur,h,_⟩
  ·simp at h
  ·simp at h;exact h.2.1
 rw [hβ]at h1
 subst hn
 have c8:i*r.size+j<r.els.length*r.size:=by
  have:=(List.getElem?_eq_some_iff.1 hv).1
  rw [h1.1]at this;exact this
 exact⟨v,by rw [h1.cellAt _ c8];exact hv,h3 v (List.mem_of_getElem? hv),gE⟩
theorem gM(h:aM c p v):aK c p v:=by
 cases p with
 | ag l=>exact aK.jS (p:=.ag l) (by simpa only [aM]using h)
 | dK l=>exact aK.jS (p:=.dK l) (by simpa only [aM]using h)
 | rC=>simp [aM,dY]at h
 | _=>simpa only [aK]using h
theorem LG{v:PV}{vp:Value}(hI:Inv w0 S0 c)(hp:aK c p vp)(h:x9 E t c.rows p v) :
  ∃v',(Instr.loadAt t vp).run E.P c.w = .ok v' c.w∧aK c v v':=by
 obtain⟨hk,h⟩:=h
 have key:∀(b o:Nat) (l:List PV),(∀k q,l[k]? = some q -> ∃u,c.w.cell? ⟨b,o+k,none⟩=some u∧u.oneCell'=true∧aM c q u) ->
   (if (E.ty t).agg=true then(E.ty t).size<=l.length∧v = .ag (l.take (E.ty t).size)else l[0]? = some v) ->
   ∃v',(Instr.loadAt t (.pointer (some ⟨b,o,none⟩))).run E.P c.w = .ok v' c.w∧aK c v v':=by
  intro b o l hl hv
  by_cases ha:(E.ty t).agg=true
  ·rw [if_pos ha]at hv
   obtain⟨hn,rfl⟩:=hv
   have:∃vs:List Value,vs.length=(E.ty t).size ∧ ∀k,k<(E.ty t).size -> ∀q,l[k]? = some q -> ∃u,vs[k]? = some u∧c.w.cell? ⟨b,o+k,none⟩=some u∧aM c q u:=by
    refine⟨(List.range (E.ty t).size).map fun k=>(c.w.cell? ⟨b,o+k,none⟩).getD undef,aG,fun k hk q hq=>?_⟩
    obtain⟨u,hu,_,hr⟩:=hl k q hq
    exact⟨u,by simp [hk,hu],hu,hr⟩
   obtain⟨vs,RO,D6⟩:=this
   have afu:∀k u,vs[k]? = some u->c.w.cell? ⟨b,o+k,none⟩=some u:=by
    intro k u hu
    have CN:k<(E.ty t).size:=by rw [<-RO];exact(List.getElem?_eq_some_iff.1 hu).1
    obtain⟨u',h1,h2,_⟩:=D6 k CN l[k] (by simp [List.getElem?_eq_getElem (show k<l.length by omega)])
    rw [hu]at h1;cases h1;exact h2
   refine⟨_,GS (E.ok t) hk RO afu,?_⟩
   rw [if_pos ha]
   refine⟨vs,rfl,bA.cI (by simp [RO];omega) fun k q u hq hu=>?_⟩
   rw [List.getElem?_take]at hq
   split at hq
   ·rename_i CN
    obtain⟨u',h1,_,h3⟩:=D6 k CN q hq
    rw [hu]at h1;cases h1;exact h3
   ·cases hq
  ·rw [if_neg ha]at hv
   obtain⟨u,hu,ho,hr⟩:=hl 0 v hv
   have h1:(E.ty t).size=1:=by
    cases hE:E.ty t<;>simp_all [TI.agg,TI.size,TI.zero,TI.known]
   refine⟨_,GS (vs:=[u]) (E.ok t) hk (by simp [h1]) (fun k x hx=>?_),?_⟩
   ·match k with
    | 0=>simp at hx;subst hx;exact hu
    | k+1=>simp at hx
   ·rw [if_neg ha];exact gM hr
 cases p with
 | rd l =>
  simp only [aK,aM,dY]at hp
  obtain⟨b,o,rfl,hc⟩:=hp
  exact key b o l (fun k q hq=>let ⟨u,h1,_,h3,h4⟩:=kK hc hq;⟨u,h1,h3,aM.jS h4⟩) h
 | ptr id ver i j =>
  simp only at h
  obtain⟨r,hr,lG,el,pS,hh⟩:=h
  simp only [aK,aM]at hp
  obtain⟨g,n,cap,hβ,rfl⟩:=hp.2 r hr lG
  refine key g (i*r.size+j) (el.drop j) (fun k q hq=>?_) ?_
  ·rw [List.getElem?_drop]at hq
   have:=AJ hI hr hβ pS hq
   rw [show i*r.size+(j+k)=i*r.size+j+k by omega]at this;exact this
  ·split at hh
   ·rename_i ha;rw [if_pos ha];exact⟨by rw [List.length_drop];omega,hh.2⟩
   ·rename_i ha;rw [if_neg ha];simpa using hh
 | _=>exact False.elim h
theorem WY{v:PV}(hx:aK c x vx)(h:yX E t i x v) :
  ∃v',(Instr.field t vx i).run E.P c.w = .ok v' c.w∧aK c v v':=by
 unfold yX at h
 split at h
 ·rename_i fs z hE
  obtain⟨o,n,b,hf,h⟩:=h
  split at h
  ·rename_i l
   have ht:=E.ok t
   rw [hE]at ht
   obtain⟨⟨fields,hu,ha⟩,_⟩:=ht
   obtain⟨vs,rfl,D6⟩:=hx
   obtain⟨fd,hfd,iD⟩:∃fd,fields[i]? = some fd∧rD E.P fd (o,n,b):=by
    have hlen:=ha.length
    have hi:i<fields.toList.length:=by rw [hlen];exact(List.getElem?_eq_some_iff.1 hf).1
    obtain⟨y,hy,hyy⟩:=ha.get (k:=i) (a:=fields.toList[i]) (by simp [List.getElem?_eq_getElem hi])
    rw [hf]at hy;cases hy
    exact⟨_,aG,hyy⟩
   obtain⟨inf,WZ,J0⟩:=iD.size
   obtain⟨d,hd⟩:=iD.und
   have afv:fd.offset=o:=iD.off
   simp only [Instr.field,Sem.run_bind,run_underlying hu,Result.andThen_ok,hfd,asAgg,Sem.run_pure,part,p7 hd,iD.agg]
   by_cases hb:b=true
   ·subst hb
    simp only [if_true]at h
    subst h
    simp only [if_true,Sem.run_bind,dP WZ,Result.andThen_ok,Sem.run_pure,afv,J0]
    refine⟨_,rfl,(vs.drop o).take n,?_,(D6.drop o).take n⟩
    congr 1
    apply Array.ext'
    simp [List.extract_eq_take_drop]
   ·have jH:b=false:=by simpa using hb
    subst jH
    simp only [Bool.false_eq_true,if_false]at h |-
    obtain⟨u,hu',hr⟩:=D6.get h
    refine⟨u,?_,gM hr⟩
    rw [afv]
    simp [hu']
  ·exact False.elim h
 ·exact False.elim h
theorem NV{b:Bool}(hE:E.ty t = .struct fs z)(hf:fs[i]? = some (o,n,b)) :
  ∃(fields:Array Field) (fd:Field),E.P.underlying t=some (.struct fields)∧fields[i]? = some fd∧rD E.P fd (o,n,b):=by
 have ht:=E.ok t
 rw [hE]at ht
 obtain⟨⟨fields,hu,ha⟩,_⟩:=ht
 have hlen:=ha.length
 have hi:i<fields.toList.length:=by rw [hlen];exact(List.getElem?_eq_some_iff.1 hf).1
 obtain⟨y,hy,hyy⟩:=ha.get (k:=i) (a:=fields.toList[i]) (by simp [List.getElem?_eq_getElem hi])
 rw [hf]at hy;cases hy
 exact⟨fields,_,hu,aG,hyy⟩
theorem D7{b:Bool}(hE:E.ty t = .struct fs z)(hf:fs[i]? = some (o,n,b))(g off:Nat) :
  (Instr.fieldAt t (.pointer (some ⟨g,off,none⟩)) i).run E.P c.w = .ok (.pointer (some ⟨g,off+o,none⟩)) c.w:=by
 obtain⟨fields,fd,hu,hfd,iD⟩:=NV hE hf
 obtain⟨inf,WZ,J0⟩:=iD.size
 have mX:0<n:=iD.pos
 have aCf:inf.size=n:=J0
 have afv:fd.offset=o:=iD.off
 simp only [Instr.fieldAt,Sem.run_bind,run_underlying hu,Result.andThen_ok,hfd,Instr.sureAddr,Sem.run_pure,fieldPlace,dP WZ,aCf]
 rw [if_neg aA]
 simp [lF,afv]
theorem GU{v:PV}(hx:aK c x vx)(h:iK E t c.rows i x v) :
  ∃v',(Instr.fieldAt t vx i).run E.P c.w = .ok v' c.w∧aK c v v':=by
 unfold iK at h
 split at h
 ·rename_i fs z hE
  obtain⟨o,n,b,hf,h⟩:=h
  split at h
  ·obtain⟨_,rfl⟩:=h
   simp only [aK,aM,dY]at hx
   obtain⟨g,off,rfl,hc⟩:=hx
   exact⟨_,D7 hE hf g off,by simp only [aK,aM,dY];exact⟨g,off+o,rfl,yD hc o⟩⟩
  ·obtain⟨⟨r,hr,lG⟩,rfl⟩:=h
   simp only [aK,aM]at hx |-
   obtain⟨g,m,cap,hβ,rfl⟩:=hx.2 r hr lG
   refine⟨_,D7 hE hf g _,hx.1,fun r' jO _=>?_⟩
   rw [hr]at jO;cases jO
   exact⟨g,m,cap,hβ,by rw [Nat.add_assoc]⟩
  ·exact False.elim h
 ·exact False.elim h
theorem iM(hE:E.ty t = .slice e n b z) :
  E.P.underlying t=some (.slice e)∧0<n∧z.length=n ∧ ∃i zv,E.P.info? e=some i∧i.zero=some zv∧i.size=n∧i.bytes=b∧zv.cells.toList.map l5=z∧zv.cells.all (·.oneCell')=true:=by
 have ht:=E.ok t
 rw [hE]at ht
 obtain⟨h1,_,h3,i,h4,h5⟩:=ht
 obtain⟨i',v,g1,g2,g3,g4,g5⟩:=h3.ok
 rw [h4]at g1;cases g1
 exact⟨h1,h3.pos,h3.len,i,v,h4,g2,g3,h5,g4,g5⟩
theorem rF(hE:E.ty t = .slice e n b z)(h0:0<=k)(h1:k.toNat<len) :
  (Instr.indexAt t (.slice (some ⟨g,o,none⟩) len cap) (.int kk k)).run E.P c.w = .ok (.pointer (some ⟨g,o+k.toNat*n,none⟩)) c.w:=by
 obtain⟨hu,hn,_,i,zv,hi,_,hs,_,_,_⟩:=iM hE
 have h2:0<=k∧k<(len:Int):=⟨h0,aA⟩
 simp [Instr.indexAt,run_underlying hu,asIntOf,h2,dP hi,hs,lF]
theorem LH(hE:E.ty t = .arr e m n z)(h0:0<=k)(h1:k.toNat<m) :
  (Instr.indexAt t (.pointer (some ⟨g,o,none⟩)) (.int kk k)).run E.P c.w = .ok (.pointer (some ⟨g,o+k.toNat*n,none⟩)) c.w:=by
 have ht:=E.ok t
 rw [hE]at ht
 obtain⟨hu,_,i,hi,hs⟩:=ht
 have h2:0<=k∧k<(m:Int):=⟨h0,aA⟩
 simp [Instr.indexAt,run_underlying hu,asIntOf,h2,dP hi,hs,lF,Instr.sureAddr]
theorem vA(hI:Inv w0 S0 c)(hr:c.rows id=some r)(o7:0<r.els.length):∃g cap,c.β id = .slice (some ⟨g,0,none⟩) r.els.length cap:=by
 obtain⟨⟨xs,h1,_,_⟩,_⟩:=hI.row id r hr
 rcases h1.2 with ⟨_,h⟩ | ⟨g',l7,cur,h,_⟩
 ·omega
 ·exact⟨g',l7,h⟩
theorem GV{ix v:PV}{vi:Value}(hI:Inv w0 S0 c)(hx:aK c x vx)(hi:aK c ix vi)(h:iL E t c.rows x ix v) :
  ∃v',(Instr.indexAt t vx vi).run E.P c.w = .ok v' c.w∧aK c v v':=by
 unfold iL at h
 split at h
 ·rename_i e n b z hE
  split at h
  ·rename_i kk k
   rw [c7]at hi
   subst hi
   obtain⟨h0,h⟩:=h
   split at h
   ·obtain⟨el,pS,hn,rfl⟩:=h
    simp only [aK,aM,dY]at hx |-
    obtain⟨a,cap,rfl,_,_,hh⟩:=hx
    have c8:=(List.getElem?_eq_some_iff.1 pS).1
    rcases hh with rfl | ⟨g,o,rfl,hh⟩
    ·simp at pS
    ·exact⟨_,rF hE h0 c8,g,_,rfl,l6 hh hn pS⟩
   ·obtain⟨el,pS,hn,rfl⟩:=h
    simp only [aK,aM,dY]at hx |-
    obtain⟨a,rfl,_,hh⟩:=hx
    have c8:=(List.getElem?_eq_some_iff.1 pS).1
    rcases hh with rfl | ⟨g,o,rfl,hh⟩
    ·simp at pS
    ·exact⟨_,rF hE h0 c8,g,_,rfl,l6 hh hn pS⟩
   ·rename_i id ver off len
    obtain⟨r,hr,lG,rE,c8,rfl⟩:=h
    simp only [aK,aM]at hx |-
    obtain⟨afw,hx⟩:=hx
    obtain⟨hle,hx⟩:=hx r hr lG
    rcases hx with ⟨rfl,a,m,cap,hβ,rfl⟩ | ⟨mX,g,m,cap,a,hβ,hoc,rfl,ha⟩
    ·obtain⟨g,l7,vB⟩:=vA hI hr aA
     rw [hβ]at vB
     simp only [Value.slice.injEq]at vB
     obtain⟨rfl,rfl,rfl⟩:=vB
     refine⟨_,rF hE h0 c8,⟨afw,rfl⟩,fun r' jO _=>?_⟩
     rw [hr]at jO;cases jO
     exact⟨g,_,_,hβ,by rw [<-rE];simp⟩
    ·rcases ha with ha | rfl
     ·omega
     ·refine⟨_,rF hE h0 c8,⟨afw,rfl⟩,fun r' jO _=>?_⟩
      rw [hr]at jO;cases jO
      exact⟨g,m,cap,hβ,by rw [<-rE,Nat.add_mul,Nat.add_zero]⟩
   ·exact False.elim h
  ·exact False.elim h
 ·rename_i e m n z hE
  split at h
  ·rename_i kk k
   rw [c7]at hi
   subst hi
   obtain⟨⟨h0,h1⟩,h⟩:=h
   split at h
   ·obtain⟨_,rfl⟩:=h
    simp only [aK,aM,dY]at hx
    obtain⟨g,off,rfl,hc⟩:=hx
    exact⟨_,LH hE h0 h1,by simp only [aK,aM,dY];exact⟨g,off+k.toNat*n,rfl,yD hc _⟩⟩
   ·obtain⟨⟨r,hr,lG⟩,rfl⟩:=h
    simp only [aK,aM]at hx |-
    obtain⟨g,m',cap,hβ,rfl⟩:=hx.2 r hr lG
    refine⟨_,LH hE h0 h1,hx.1,fun r' jO _=>?_⟩
    rw [hr]at jO;cases jO
    exact⟨g,m',cap,hβ,by rw [Nat.add_assoc]⟩
   ·exact False.elim h
  ·exact False.elim h
 ·exact False.elim h
theorem NW{y:Nat}{code:BoundsCode}(h0:0<=k)(h1:k<=y) :
  (Instr.sliceBound (.int kk k) y code).run P w = .ok k.toNat w:=by
 have h2:0<=k∧k<=(y:Int):=⟨h0,h1⟩
 simp [Instr.sliceBound,asIntOf,h2]
theorem W1{a:Nat}
  (GW:∀p,lo=some p -> ∃u,vlo=some u∧aK c p u) (aCh:lo=none->vlo=none)
  (WG:∀p,hi=some p -> ∃u,vhi=some u∧aK c p u) (aCi:hi=none->vhi=none)
  (hmx:∀p,mx=some p -> ∃u,vmx=some u∧aK c p u) (aCj:mx=none->vmx=none)
  (h1:AD 0 lo a) (h2:AD len hi b) (h3:AD cap mx m) (hm:mx.isSome=true->hi.isSome=true) (gU:a<=b) (hbm:b<=m) (hmc:m<=cap) :
  (Instr.sliceBounds true len cap vlo vhi vmx).run P w = .ok (a,b,m) w:=by
 have key:∀ {d y n:Nat} {o:Option PV} {vo:Option Value} {code:BoundsCode},(∀p,o=some p -> ∃u,vo=some u∧aK c p u)->(o=none->vo=none)->AD d o n->n<=y ->
   (o=none∧vo=none∧n=d) ∨ ∃kk k,vo=some (.int kk k)∧k.toNat=n∧o.isSome=true ∧ ∀code,(Instr.sliceBound (.int kk k) y code).run P w = .ok n w:=by
  intro d y n o vo code ho ho' hy hn
  cases o with
  | none=>exact .inl ⟨rfl,ho' rfl,hy⟩
  | some p =>
   cases p with
   | int kk k =>
    obtain⟨u,hu,hr⟩:=ho _ rfl
    rw [c7]at hr
    subst hr
    obtain⟨g1,g2⟩:=hy
    exact .inr ⟨kk,k,hu,g2.symm,rfl,fun code=>by rw [NW g1 aA,g2]⟩
   | _=>exact False.elim hy
 rcases key (y:=b) (code:=.index) GW aCh h1 gU with ⟨rfl,rfl,rfl⟩ | ⟨_,_,rfl,_,_,g1⟩ <;>
 rcases key (y:=m) (code:=.index) WG aCi h2 hbm with ⟨rfl,rfl,rfl⟩ | ⟨_,_,rfl,_,_,g2⟩ <;>
 rcases key (y:=cap) (code:=.index) hmx aCj h3 hmc with ⟨rfl,rfl,rfl⟩ | ⟨_,_,rfl,_,afy,g3⟩ <;>
 first
  | (simp only [Instr.sliceBounds,Sem.run_bind,Sem.run_pure,Result.andThen_ok, *];done)
  | (have:=hm afy;simp at this)
end
section
variable {E:Env} {c:Cx} {w0:World} {S0:eU}
def W2(c:Cx)(p:Option PV)(v:Option Value):Prop:=(∀q,p=some q -> ∃u,v=some u∧aK c q u)∧(p=none->v=none)
theorem oN{bb:Nat}(hE:E.ty t = .slice e n bb z){A:Option Addr}{a:Nat}
  (GW:W2 c lo vlo) (WG:W2 c hi vhi) (hmx:W2 c mx vmx)
  (h1:AD 0 lo a) (h2:AD len hi b) (h3:AD cap mx m) (hm:mx.isSome=true->hi.isSome=true) (gU:a<=b) (hbm:b<=m) (hmc:m<=cap) :
  (Instr.sliceAt t (.slice A len cap) vlo vhi vmx).run E.P c.w = .ok (.slice (if m=a then A else A.map (·.add (a*n))) (b-a) (m-a)) c.w:=by
 obtain⟨hu,hn,_,i,zv,jF,_,hs,_,_,_⟩:=iM hE
 have hb:=W1 (P:=E.P) (w:=c.w) GW.1 GW.2 WG.1 WG.2 hmx.1 hmx.2 h1 h2 h3 hm gU hbm hmc
 simp [Instr.sliceAt,Instr.slice,run_underlying hu,hb,dP jF,hs]
theorem W3{l:List (List PV)}(h:iJ S w g o l)(hn:∀e∈l,e.length=n)(a b:Nat):iJ S w g (o+a*n) ((l.take b).drop a):=by
 refine sM (n:=n) (fun e he=>hn e (List.mem_of_mem_take (List.mem_of_mem_drop he))) fun k e hk=>?_
 rw [List.getElem?_drop,List.getElem?_take]at hk
 split at hk
 ·have:=l6 h hn hk
  rw [show o+a*n+k*n=o+(a+k)*n by rw [Nat.add_mul];omega];exact this
 ·cases hk
theorem W4{v:PV}(hI:Inv w0 S0 c)(hx:aK c x vx)(GW:W2 c lo vlo)(WG:W2 c hi vhi)(hmx:W2 c mx vmx)
  (h:rZ E t c.rows x lo hi mx v):∃v',(Instr.sliceAt t vx vlo vhi vmx).run E.P c.w = .ok v' c.w∧aK c v v':=by
 unfold rZ at h
 split at h
 ·rename_i e n bb z hE
  have sub:∀(l:List (List PV)) (A:Option Addr) (cap a b:Nat),l.length<=cap->cap<=maxLen->(l = [] ∨ ∃g o,A=some ⟨g,o,none⟩∧iJ c.S c.w g o l) ->
    (∀e∈l,e.length=n)->AD 0 lo a->AD l.length hi b->a<=b->b<=l.length ->
    WS l a b hi mx v ->
    ∃v',(Instr.sliceAt t (.slice A l.length cap) vlo vhi vmx).run E.P c.w = .ok v' c.w∧aK c v v':=by
   intro l A cap a b hlc hcm gE hn h1 h2 gU hbl h
   have hlen:((l.take b).drop a).length=b-a:=by simp;omega
   have addr:∀m,b<=m->(l.take b).drop a = [] ∨ ∃g o,(if m=a then A else A.map (·.add (a*n)))=some ⟨g,o,none⟩∧iJ c.S c.w g o ((l.take b).drop a):=by
    intro m hm
    rcases Nat.lt_or_ge a b with c8 | hge
    ·right
     rcases gE with rfl | ⟨g,o,rfl,hr⟩
     ·simp at hbl;omega
     ·rw [if_neg aA]
      exact⟨g,o+a*n,by simp [lF],W3 hr hn a b⟩
    ·left;exact List.eq_nil_of_length_eq_zero (by rw [hlen];omega)
   cases mx with
   | none =>
    simp only [WS]at h
    subst h
    refine⟨_,oN hE GW WG hmx h1 h2 (m:=cap) (by simp [AD]) aG gU aA (Nat.le_refl _),?_⟩
    simp only [aK,aM,dY]
    exact⟨_,cap-a,by rw [hlen],by rw [hlen];omega,aA,addr cap aA⟩
   | some m =>
    simp only [WS]at h
    obtain⟨c',CX,rfl,afy,rfl⟩:=h
    have h3:AD cap (some m) b:=by cases m<;>simp_all [AD]
    refine⟨_,oN hE GW WG hmx h1 h2 h3 (fun _=>afy) gU (Nat.le_refl _) aA,?_⟩
    simp only [aK,aM,dY]
    exact⟨_,by rw [hlen],by rw [hlen];omega,addr b (Nat.le_refl _)⟩
  split at h
  ·obtain⟨a,b,h1,h2,rfl,rfl,afz,rfl⟩:=h
   simp only [aK,aM,dY]at hx
   subst hx
   have apY:mx=none:=by simpa using afz
   subst apY
   exact⟨_,oN hE GW WG hmx h1 h2 (m:=0) (by simp [AD]) aG (Nat.le_refl _) (Nat.le_refl _) (Nat.le_refl _),by simp [aK,aM,dY]⟩
  ·obtain⟨a,b,h1,h2,gU,hbl,hn,h⟩:=h
   simp only [aK,aM,dY]at hx
   obtain⟨A,cap,rfl,g1,g2,g3⟩:=hx
   exact sub _ A cap a b g1 g2 g3 hn h1 h2 gU hbl h
  ·obtain⟨a,b,h1,h2,gU,hbl,hn,h⟩:=h
   simp only [aK,aM,dY]at hx
   obtain⟨A,rfl,g2,g3⟩:=hx
   exact sub _ A _ a b (Nat.le_refl _) g2 g3 hn h1 h2 gU hbl h
  ·rename_i id ver off len
   obtain⟨r,hr,lG,rE,a,b,h1,h2,gU,hbl,afz,rfl⟩:=h
   have apY:mx=none:=by simpa using afz
   subst apY
   simp only [aK,aM]at hx |-
   obtain⟨afw,hx⟩:=hx
   obtain⟨hle,hx⟩:=hx r hr lG
   obtain⟨⟨xs,lH,_,_⟩,_⟩:=hI.row id r hr
   have anA:∀A m cap,c.β id = .slice A m cap->r.els.length<=cap:=by
    intro A m cap hβ
    rw [hβ]at lH
    rcases lH.2 with ⟨h',hz⟩ | ⟨g,l7,cur,h',_,_,W5,_⟩
    ·simp at h';omega
    ·simp at h';omega
   rcases hx with ⟨rfl,A,m,cap,hβ,rfl⟩ | ⟨mX,g,m,cap,A,hβ,hoc,rfl,ha⟩
   ·have akx:=anA _ _ _ hβ
    refine⟨_,oN hE GW WG hmx h1 h2 (m:=cap) (by simp [AD]) aG gU aA (Nat.le_refl _),afw,fun r' jO _=>?_⟩
    rw [hr]at jO;cases jO
    refine⟨aA,?_⟩
    rcases Nat.eq_zero_or_pos a with rfl | hap
    ·left
     refine⟨rfl,A,m,cap,hβ,?_⟩
     congr 1
     cases A<;>simp [Addr.add]
    ·right
     obtain⟨g,l7,vB⟩:=vA hI hr aA
     rw [hβ]at vB
     simp only [Value.slice.injEq]at vB
     obtain⟨rfl,rfl,rfl⟩:=vB
     refine⟨aA,g,_,_,if cap=a then⟨g,0,none⟩else⟨g,0+a*n,none⟩,hβ,aA,?_,?_⟩
     ·simp only [Nat.zero_add]
      congr 1
      split<;>simp [lF]
     ·rcases Nat.lt_or_ge a b with c8 | hge
      ·right;rw [if_neg aA];simp [rE]
      ·left;omega
   ·have akx:=anA _ _ _ hβ
    refine⟨_,oN hE GW WG hmx h1 h2 (m:=cap-off) (by simp [AD]) aG gU aA (Nat.le_refl _),afw,fun r' jO _=>?_⟩
    rw [hr]at jO;cases jO
    refine⟨aA, .inr ⟨aA,g,m,cap,if cap-off=a then A else A.add (a*n),hβ,aA,?_,?_⟩⟩
    ·rw [show cap-(off+a)=cap-off-a by omega]
     congr 1
     split<;>simp
    ·rcases Nat.lt_or_ge a b with c8 | hge
     ·right
      rcases ha with ha | rfl
      ·omega
      ·rw [if_neg aA];simp [lF,rE,Nat.add_mul]
     ·left;omega
  ·exact False.elim h
 ·exact False.elim h
end
theorem NX(l:List α)(i:Nat)(v:α)(rest:List α)(h:i+rest.length+1<=l.length) :
  ((l.set i v).take (i+1)++rest++(l.set i v).drop (i+1+rest.length))=l.take i++(v::rest)++l.drop (i+(rest.length+1)):=by
 have h1:(l.set i v).take (i+1)=l.take i ++ [v]:=by
  rw [List.take_succ_eq_append_getElem (by simp;omega)]
  simp [List.take_set,List.set_eq_of_length_le (show (l.take i).length<=i by simp;omega)]
 have h2:(l.set i v).drop (i+1+rest.length)=l.drop (i+1+rest.length):=by
  rw [List.drop_set,if_pos aA]
 rw [h1,h2,show i+(rest.length+1)=i+1+rest.length by omega]
 simp
theorem tC(off:Nat):∀(L:List Value) (k:Nat) (arr:Array Value),off+k+L.length<=arr.size ->
  ((L.zipIdx k).foldl (fun cs (x:Value × Nat)=>cs.setIfInBounds (off+x.2) x.1) arr).toList=arr.toList.take (off+k)++L++arr.toList.drop (off+k+L.length)
 | [],k,arr,_=>by simp
 | v::L,k,arr,h=>by
  simp only [List.zipIdx_cons,List.foldl_cons]
  rw [tC off L (k+1) (arr.setIfInBounds (off+k) v) (by simp at h |-;omega)]
  have:=NX arr.toList (off+k) v L (by simp at h |-;omega)
  rw [Array.toList_setIfInBounds,show off+(k+1)=off+k+1 by omega]
  simpa [List.length_cons]using this
section
variable {E:Env} {c:Cx} {w0:World} {S0:eU}
theorem NY(h:aK c p v)(hp:∀l,p ≠ .ag l)(hu:∀l,p ≠ .dK l)(hn:p ≠ .undef)(ho:∀a b d e,p ≠ .own a b d e)(hk:∀a b d,p ≠ .rC a b d):v.cells = #[v]:=by
 cases p with
 | ag l=>exact absurd rfl (hp l)
 | dK l=>exact absurd rfl (hu l)
 | undef=>exact absurd rfl hn
 | own a b d e=>exact absurd rfl (ho a b d e)
 | rC a b d=>exact absurd rfl (hk a b d)
 | ptr a b d e =>
  have h1:v.oneCell'=true:=h.1.2
  cases v<;>simp_all [Value.cells,Value.oneCell']
 | sL a b d =>
  have h1:v.oneCell'=true:=h.1.2
  cases v<;>simp_all [Value.cells,Value.oneCell']
 | bool b=>rw [eD]at h;subst h;rfl
 | int k n=>rw [c7]at h;subst h;rfl
 | str s=>simp only [aK,aM,dY]at h;subst h;rfl
 | nW=>simp only [aK,aM,dY]at h;subst h;rfl
 | nil=>simp only [aK,aM,dY]at h;subst h;rfl
 | sl l=>simp only [aK,aM,dY]at h;obtain⟨a,cap,rfl,_⟩:=h;rfl
 | kJ l=>simp only [aK,aM,dY]at h;obtain⟨a,rfl,_⟩:=h;rfl
 | rd l=>simp only [aK,aM,dY]at h;obtain⟨a,o,rfl,_⟩:=h;rfl
 | fn g l=>simp only [aK,aM,dY]at h;obtain⟨a,rfl,_⟩:=h;rfl
theorem W6(h:aK c p v)(hc:gB p=some l):bA (aM c) l v.cells.toList:=by
 have one:∀q:PV,(aK c q v->aM c q v)->v.cells = #[v]->p=q->l = [q]->bA (aM c) l v.cells.toList:=by
  rintro q hq hv rfl rfl
  rw [hv]
  exact⟨hq h,trivial⟩
 cases p with
 | ag l' =>
  simp only [gB,Option.some.injEq]at hc
  subst hc
  obtain⟨vs,rfl,D6⟩:=h
  simpa [Value.cells]using D6
 | dK _=>simp [gB]at hc
 | undef=>simp [gB]at hc
 | own _ _ _ _=>simp [gB]at hc
 | rC _ _ _=>simp [gB]at hc
 | _ =>
  simp only [gB,Option.some.injEq]at hc
  refine one _ (fun hh=>by simpa only [aK]using hh) (NY h ?_ ?_ ?_ ?_ ?_) rfl hc.symm<;>simp
theorem GX{fs:List (Nat × Nat × Bool)}:∀ {ps:List (Nat × PV)} {vs:List (Nat × Value)} {z l:List PV} {cells:Array Value},
  bA (fun (x:Nat × PV) (y:Nat × Value)=>x.1=y.1∧aK c x.2 y.2) ps vs->bA (aM c) z cells.toList->yA fs ps z=some l ->
  ∃dF,Instr.fill (fun i=>(fs.toArray.map fun x=>(x.1,x.2.1))[i]?) cells vs=some dF∧bA (aM c) l dF.toList
 | [],[],z,l,cells,_,hz,h=>by
  simp only [yA,Option.some.injEq]at h
  subst h
  exact⟨cells,by simp [Instr.fill],hz⟩
 | [],_::_,_,_,_,h,_,_=>h.elim
 | _::_,[],_,_,_,h,_,_=>h.elim
 | (i,p)::ps,(j,v)::vs,z,l,cells,h,hz,hf=>by
  obtain⟨⟨hij,hr⟩,afA⟩:=h
  simp only at hij hr
  subst hij
  simp only [yA]at hf
  split at hf
  ·rename_i o n b l' hfs GY
   split at hf
   ·rename_i uK
    obtain⟨hl,hon⟩:=uK
    have hc:=W6 hr GY
    have rE:v.cells.size=n:=by rw [<-hl,hc.length];simp
    have GZ:z.length=cells.size:=by rw [hz.length];simp
    have LI:=tC o v.cells.toList 0 cells (by simp;omega)
    have hz':bA (aM c) (z.take o++l'++z.drop (o+n)) ((v.cells.toList.zipIdx 0).foldl (fun cs (x:Value × Nat)=>cs.setIfInBounds (o+x.2) x.1) cells).toList:=by
     rw [LI]
     have:v.cells.toList.length=n:=by simp [rE]
     rw [this]
     simpa using((hz.take o).append hc).append (hz.drop (o+n))
    obtain⟨dF,h1,h2⟩:=GX (fs:=fs) afA hz' hf
    refine⟨dF,?_,h2⟩
    have R4:(fs.toArray.map fun x=>(x.1,x.2.1))[i]? = some (o,n):=by simp [hfs]
    simp only [Instr.fill,R4]
    rw [if_neg (by simp [rE];omega)]
    rw [<-h1]
    congr 1
    have hz3:v.cells.toList.zipIdx=v.cells.zipIdx.toList:=aG
    rw [hz3,Array.foldl_toList]
   ·cases hf
  ·cases hf
end
section
variable {E:Env} {c:Cx} {w0:World} {S0:eU}
theorem run_places{fields:Array Field}(h:bA (rD E.P) fields.toList fs)(w:World) :
  (fields.mapM (fun f=>do pure (f.offset,<-Go.sizeOf f.type)):Sem (Array (Nat × Nat))).run E.P w = .ok (fs.toArray.map fun x=>(x.1,x.2.1)) w:=by
 have key:∀(l:List Field) (fs:List (Nat × Nat × Bool)),bA (rD E.P) l fs ->
   (l.mapM (fun f=>Functor.map (Prod.mk f.offset) (Go.sizeOf f.type)):Sem (List (Nat × Nat))).run E.P w = .ok (fs.map fun x=>(x.1,x.2.1)) w:=by
  intro l
  induction l with
  | nil =>
   intro fs h
   cases fs with
   | nil=>simp
   | cons _ _=>exact h.elim
  | cons f l ih =>
   intro fs h
   cases fs with
   | nil=>exact h.elim
   | cons x fs =>
    obtain⟨i,h1,h2⟩:=h.1.size
    simp [List.mapM_cons,dP h1,h2,ih fs h.2,h.1.off]
 have h2:=key fields.toList fs h
 rw [Array.mapM_eq_mapM_toList]
 simp [h2]
theorem LJ{p p':Nat->Option (Nat × Nat)}(h:∀i x,p i=some x->p' i=some x):∀(l:List (Nat × Value)) (cells r:Array Value),Instr.fill p cells l=some r->Instr.fill p' cells l=some r
 | [],cells,r,h1=>h1
 | (i,v)::l,cells,r,h1=>by
  unfold Instr.fill at h1 |-
  cases hp:p i with
  | none=>rw [hp]at h1;cases h1
  | some x =>
   obtain⟨off,size⟩:=x
   rw [hp]at h1
   rw [h i _ hp]
   simp only at h1 |-
   split at h1
   ·cases h1
   ·rename_i hc
    rw [if_neg hc]
    exact LJ h l _ r h1
theorem W7{parts:Array (Nat × Operand)}{ρ:Operand->PV}{vρ:Operand->Value}{v:PV}(hρ:∀x,aK c (ρ x) (vρ x))
  (h:u7 (E.ty t) (parts.toList.map fun x=>(x.1,ρ x.2)) v) :
  ∃v',(Instr.build t (parts.map fun(i,x)=>(i,vρ x))).run E.P c.w = .ok v' c.w∧aK c v v':=by
 unfold u7 at h
 split at h
 ·rename_i fs z hE
  obtain⟨l,hl,rfl⟩:=h
  have ht:=E.ok t
  rw [hE]at ht
  obtain⟨⟨fields,hu,ha⟩,hz⟩:=ht
  obtain⟨i,zv,hi,hzv,_,W8,_⟩:=hz.ok
  have oY:bA (aM c) z zv.cells.toList:=by
   rw [<-W8]
   refine bA.cI aG fun k a b RN hb=>?_
   simp at RN
   obtain⟨u,hu',rfl⟩:=RN
   have:zv.cells.toList[k]? = some u:=by simpa using hu'
   rw [this]at hb;cases hb
   exact n3 _
  obtain⟨dF,h1,h2⟩:=GX (c:=c) (fs:=fs) (vs:=(parts.map fun(i,x)=>(i,vρ x)).toList) (cells:=zv.cells) (by
   refine bA.cI aG fun k a b RN hb=>?_
   simp at RN hb
   obtain⟨i',x,hx,rfl⟩:=RN
   obtain⟨j',y,hy,rfl⟩:=hb
   rw [hx]at hy;cases hy
   exact⟨rfl,hρ _⟩) oY hl
  refine⟨.agg dF,?_,dF.toList,aG,h2⟩
  have NZ:Instr.fill (fun x=>(fs.toArray.map fun x=>(x.1,x.2.1))[x]?) zv.cells (parts.map fun x=>(x.1,vρ x.2)).toList=some dF:=h1
  simp only [Instr.build,zeroValue,typeInfo,program,Sem.run_bind,Sem.run,hi,hzv,Sem.run_pure,Result.andThen_ok,run_underlying hu,run_places ha,NZ]
 ·rename_i e k n z hE
  obtain⟨l,hl,rfl⟩:=h
  have ht:=E.ok t
  rw [hE]at ht
  obtain⟨hu,hz,j,hj,hjs⟩:=ht
  obtain⟨i,zv,hi,hzv,_,W8,_⟩:=hz.ok
  have oY:bA (aM c) z zv.cells.toList:=by
   rw [<-W8]
   refine bA.cI aG fun k a b RN hb=>?_
   simp at RN
   obtain⟨u,hu',rfl⟩:=RN
   have:zv.cells.toList[k]? = some u:=by simpa using hu'
   rw [this]at hb;cases hb
   exact n3 _
  obtain⟨dF,h1,h2⟩:=GX (c:=c) (fs:=WU k n) (vs:=(parts.map fun(i,x)=>(i,vρ x)).toList) (cells:=zv.cells) (by
   refine bA.cI aG fun k a b RN hb=>?_
   simp at RN hb
   obtain⟨i',x,hx,rfl⟩:=RN
   obtain⟨j',y,hy,rfl⟩:=hb
   rw [hx]at hy;cases hy
   exact⟨rfl,hρ _⟩) oY hl
  refine⟨.agg dF,?_,dF.toList,aG,h2⟩
  have NZ:Instr.fill (fun i=>some (i*n,n)) zv.cells (parts.map fun x=>(x.1,vρ x.2)).toList=some dF:=by
   refine LJ (fun i x hx=>?_) _ _ _ h1
   simp only [WU,List.getElem?_toArray,List.map_toArray,List.map_map,List.getElem?_map]at hx
   rw [Option.map_eq_some_iff]at hx
   obtain⟨a,ha,rfl⟩:=hx
   rw [List.getElem?_range]at ha
   ·cases ha;rfl
   ·have:=(List.getElem?_eq_some_iff.1 ha).1
    simpa using this
  simp only [Instr.build,zeroValue,typeInfo,program,Sem.run_bind,Sem.run,hi,hzv,Sem.run_pure,Result.andThen_ok,run_underlying hu,dP hj,hjs,NZ]
 ·exact False.elim h
theorem ap0{o:Oper}(hI:Inv w0 S0 c)(hf:∀s,aK c (f s) (a.tmps.getD s undef)){v:PV}(h:yv E o.op (aR f) c.rows v) :
  ∃v',(execOp a.eval o).run E.P c.w = .ok (.value v') c.w∧aK c v v':=by
 have hρ:=pI hf
 have fin:∀ {s:Sem Value},(∃v',s.run E.P c.w = .ok v' c.w∧aK c v v') -> ∃v',(do pure (Next.value (<-s)):Sem Next).run E.P c.w = .ok (.value v') c.w∧aK c v v':=by
  rintro s ⟨v',h1,h2⟩
  exact⟨v',by simp [h1],h2⟩
 obtain⟨dst,op,type,pos,after,guard⟩:=o
 simp only at h
 unfold yv at h
 split at h
 ·subst h;exact⟨_,by simp [execOp],hρ _⟩
 ·subst h;exact⟨_,by simp [execOp],hρ _⟩
 ·rename_i x a' b'
  obtain⟨t,ht,rfl⟩:=h
  have:=hρ x
  rw [ht,eD]at this
  refine⟨if t=true then a.eval a' else a.eval b',by simp [execOp,this,asBool],?_⟩
  split
  ·exact hρ _
  ·exact hρ _
 ·exact fin (aft (hρ _) (hρ _) h)
 ·rename_i op _ x
  unfold yun at h
  split at h
  ·rename_i b heq
   subst h
   have:=hρ x
   rw [heq,eD]at this
   exact⟨.bool (!b),by simp [execOp,this,Op.unary],eD.2 rfl⟩
  ·rename_i k n heq
   subst h
   have:=hρ x
   rw [heq,c7]at this
   exact⟨.int k (k.wrap (0-n)),by simp [execOp,this,Op.unary,Op.intArith],c7.2 rfl⟩
  ·exact False.elim h
 ·rename_i s d x
  unfold yB at h
  split at h
  ·rename_i ks kd k n h1 h2 h3
   subst h
   have:=hρ x
   rw [h3,c7]at this
   have hs:=E.ok s
   have hd:=E.ok d
   rw [h1]at hs
   rw [h2]at hd
   exact⟨.int kd (kd.wrap n),by simp [execOp,this,convert,run_underlying hs.1,run_underlying hd.1,Conv.intToInt],c7.2 rfl⟩
  ·exact False.elim h
 ·rename_i x i
  unfold WT at h
  split at h
  ·rename_i l heq
   have:=hρ x
   rw [heq]at this
   obtain⟨vs,D6,hl⟩:=this
   obtain⟨u,hu,hr⟩:=hl.get h
   exact⟨u,by simp [execOp,D6,Instr.extract,hu],gM hr⟩
  ·exact False.elim h
 ·exact fin (LG hI (hρ _) h)
 ·exact fin (WY (hρ _) h)
 ·exact fin (GU (hρ _) h)
 ·exact fin (GV hI (hρ _) (hρ _) h)
 ·rename_i t x lo hi mx
  have ho:∀y:Option Operand,W2 c (y.map (aR f)) (y.map a.eval):=fun y=>by
   cases y with
   | none=>exact⟨aG,aG⟩
   | some y=>exact⟨fun q hq=>by simp at hq;subst hq;exact⟨_,rfl,hρ y⟩,aG⟩
  exact fin (W4 hI (hρ _) (ho _) (ho _) (ho _) h)
 ·exact fin (W7 hρ h)
 ·rename_i t x ix
  unfold yY at h
  split at h
  ·rename_i e m n z l k kk h1 h2 h3
   obtain⟨⟨q1,q2,rfl,⟨q3,q4⟩,q5⟩,rfl⟩:=h
   have g2:=hρ x
   have g3:=hρ ix
   rw [h2]at g2
   rw [h3,c7]at g3
   obtain⟨vs,g4,g5⟩:=g2
   have ht:=E.ok t
   rw [h1]at ht
   obtain⟨t1,_,i,t2,t3⟩:=ht
   obtain⟨d,hd⟩:=(E.ok e).und q1
   obtain⟨u,hu,hr⟩:=g5.get (List.getElem?_eq_getElem q5)
   refine⟨u,?_,?_⟩
   ·have c8:(kk.toNat:Int)<m:=by omega
    have hkm:kk<m:=aA
    simp [execOp,g4,g3,Instr.index,asIntOf,run_underlying t1,q3,hkm,dP t2,t3,part,p7 hd,(E.ok e).avZ q1,q2,hu]
   ·rw [show l.getD kk.toNat .undef=l[kk.toNat]by simp [List.getD,List.getElem?_eq_getElem q5]]
    exact gM hr
  ·rename_i s k kk h1 h2 h3
   obtain⟨h0,b,hb,rfl⟩:=h
   have g2:=hρ x
   have g3:=hρ ix
   rw [h2]at g2
   rw [h3,c7]at g3
   simp only [aK,aM,dY]at g2
   have ht:=E.ok t
   rw [h1]at ht
   refine⟨.int .u8 b.toNat,by simp [execOp,g2,g3,Instr.index,asIntOf,run_underlying ht.1,h0,hb],c7.2 rfl⟩
  ·exact False.elim h
 ·rename_i g fs bR
  have mp:∀l:Array Operand,(l.toList.map fun x=>aR f x).all pE=true->bA (aM c) (l.toList.map fun x=>aR f x) (l.map a.eval).toList:=fun l hl=>by
   refine bA.cI aG fun k p u pT hu=>?_
   have h1:pE p=true:=List.all_eq_true.1 hl _ (List.mem_of_getElem? pT)
   simp at pT hu
   obtain⟨x,hx,rfl⟩:=pT
   obtain⟨y,hy,rfl⟩:=hu
   rw [hx]at hy;cases hy
   exact acP (hρ x) h1
  split at h
  ·obtain⟨⟨h1,h2⟩,rfl⟩:=h
   exact⟨.func (.func g) (fs.map a.eval) (bR.map a.eval),by simp [execOp,Instr.makeFunc],(fs.map a.eval).toList,(bR.map a.eval).toList,by rw [Array.toArray_toList,Array.toArray_toList],mp fs h1,mp bR h2⟩
  obtain⟨⟨hfs,hp⟩,rfl⟩:=h
  have ap1:fs = #[]:=by
   have:=congrArg List.toArray hfs
   simpa using this
  subst ap1
  refine⟨.func (.func g) #[] (bR.map a.eval),by simp [execOp,Instr.makeFunc],?_⟩
  simp only [aK,aM,dY]
  refine⟨(bR.map a.eval).toList,by rw [Array.toArray_toList],cX.2 (bA.cI aG fun k p u pT hu=>?_)⟩
  simp at pT hu
  obtain⟨x,hx,rfl⟩:=pT
  obtain⟨y,hy,rfl⟩:=hu
  rw [hx]at hy;cases hy
  have h1:cY (aR f x)=true:=List.all_eq_true.1 hp _ (by simp;exact⟨x,Array.mem_of_getElem? hx,rfl⟩)
  exact aK.rep (hρ x) h1
 ·rename_i x t
  unfold D3 at h
  split at h
  ·rename_i e n b z hE
   obtain⟨hu,_⟩:=iM hE
   obtain⟨n',hn,rfl⟩:=h
   have hx:=hρ x
   have key:∀A cap,a.eval x = .slice A n' cap->(execOp a.eval { dst:=dst,op:=.call { callee:=.builtin .len,args:=⟨[x]⟩,argTypes:=⟨[t]⟩ },type:=type,pos:=pos,after:=after,guard:=guard }).run E.P c.w = .ok (.value (.int .i64 n')) c.w:=by
    intro A cap hA
    simp [execOp,resolve,invoke,builtin,Builtin.len_,hA,run_underlying hu,goInt]
   refine⟨.int .i64 n',?_,c7.2 rfl⟩
   unfold acO at hn
   split at hn
   ·rename_i heq;rw [heq]at hx;simp only [aK,aM,dY]at hx;exact key none 0 (by rw [hx,hn])
   ·rename_i heq;rw [heq]at hx;simp only [aK,aM,dY]at hx;obtain⟨A,cap,hA,_⟩:=hx;exact key A cap (by rw [hA,hn])
   ·rename_i heq;rw [heq]at hx;simp only [aK,aM,dY]at hx;obtain⟨A,hA,_⟩:=hx;exact key A _ (by rw [hA,hn])
   ·rename_i heq
    rw [heq]at hx
    simp only [aK,aM]at hx
    obtain⟨⟨r,hr,lG⟩,rfl⟩:=hn
    rcases(hx.2 r hr lG).2 with ⟨_,A,m,cap,_,hA⟩ | ⟨_,g,m,cap,A,_,_,hA,_⟩
    ·exact key A cap hA
    ·exact key (some A) _ hA
   ·exact False.elim hn
  ·exact False.elim h
 ·rename_i x y ts
  unfold WV at h
  split at h
  ·rename_i k1 a1 k2 a2 h1 h2
   subst h
   have g1:=hρ x
   have g2:=hρ y
   rw [h1,c7]at g1
   rw [h2,c7]at g2
   refine⟨.int k1 (if a2>a1 then a2 else a1),by simp [execOp,resolve,invoke,builtin,Builtin.max_,Builtin.max2,g1,g2],c7.2 rfl⟩
  ·exact False.elim h
 ·rename_i x y ts
  unfold WW at h
  split at h
  ·rename_i k1 a1 k2 a2 h1 h2
   subst h
   have g1:=hρ x
   have g2:=hρ y
   rw [h1,c7]at g1
   rw [h2,c7]at g2
   refine⟨.int k1 (if a2<a1 then a2 else a1),by simp [execOp,resolve,invoke,builtin,Builtin.min_,Builtin.min2,g1,g2],c7.2 rfl⟩
  ·exact False.elim h
 ·rename_i x
  unfold KI at h
  have hx:=hρ x
  split at h
  ·rename_i l heq
   rw [heq]at hx
   subst h
   have LK:=hx
   simp only [aK,aM,dY]at hx
   obtain⟨b,o,hv,_⟩:=hx
   exact⟨a.eval x,by simp [execOp,hv],LK⟩
  ·rename_i id ver i j heq
   rw [heq]at hx
   obtain⟨⟨r,hr,lG⟩,rfl⟩:=h
   have LK:=hx
   simp only [aK,aM]at hx
   obtain⟨g,n,cap,_,hv⟩:=hx.2 r hr lG
   exact⟨a.eval x,by simp [execOp,hv],LK⟩
  ·exact False.elim h
 ·rename_i t x
  obtain⟨ht,id,ver,heq,rfl⟩:=h
  have hx:=hρ x
  rw [heq]at hx
  have hk:=E.ok t
  rw [ht]at hk
  obtain⟨e,hu⟩:=u5 hk.1
  refine⟨.iface t (a.eval x),by simp [execOp,Instr.makeInterface,run_underlying hu],⟨⟨hx.1.1,rfl⟩,fun r hr hv=>?_⟩⟩
  obtain⟨g,n,cap,h1,h2⟩:=hx.2 r hr hv
  exact⟨g,n,cap,h1,by rw [h2];simp⟩
 ·exact False.elim h
end
def eO{α:Type}(f:Nat->α)(i:Nat)(x:α):Nat->α:=fun j=>if j=i then x else f j
theorem iG(f:Nat->α)(i:Nat)(x:α):eO f i x i=x:=by simp [eO]
theorem kX(f:Nat->α)(x:α)(h:j≠i):eO f i x j=f j:=by simp [eO,h]
def jT(rows:Rows):PV->Prop
 | .own id ver _ _=>∃r,rows id=some r∧r.ver=ver
 | .ptr id ver _ _=>∃r,rows id=some r∧r.ver=ver
 | .sL _ id ver=>∃r,rows id=some r∧r.ver=ver
 | .ag _=>False
 | .dK _=>False
 | .rC _ _ _=>False
 | .undef=>False
 | _=>True
section
variable {E:Env} {c:Cx} {w0:World} {S0:eU}
theorem aM.one(h:aM c p v)(ho:jT c.rows p):v.oneCell'=true:=by
 cases p with
 | own id ver off len =>
  obtain⟨r,hr,hv⟩:=ho
  simp only [aM]at h
  rcases(h.2 r hr hv).2 with ⟨_,A,n,cap,_,rfl⟩ | ⟨_,g,n,cap,A,_,_,rfl,_⟩<;>rfl
 | ptr id ver i j=>exact h.1.2
 | sL t id ver=>exact h.1.2
 | ag l=>exact ho.elim
 | dK l=>exact ho.elim
 | rC f fs bR=>exact ho.elim
 | undef=>exact ho.elim
 | bool b=>simp only [aM,dY]at h;subst h;rfl
 | int k n=>simp only [aM,dY]at h;subst h;rfl
 | str s=>simp only [aM,dY]at h;subst h;rfl
 | nW=>simp only [aM,dY]at h;subst h;rfl
 | nil=>simp only [aM,dY]at h;subst h;rfl
 | sl l=>simp only [aM,dY]at h;obtain⟨a,cap,rfl,_⟩:=h;rfl
 | kJ l=>simp only [aM,dY]at h;obtain⟨a,rfl,_⟩:=h;rfl
 | rd l=>simp only [aM,dY]at h;obtain⟨a,o,rfl,_⟩:=h;rfl
 | fn g l=>simp only [aM,dY]at h;obtain⟨a,rfl,_⟩:=h;rfl
def cR:PV->Option (List PV)
 | .ag l=>some l
 | .dK _=>none
 | .rC _ _ _=>none
 | .undef=>none
 | p=>some [p]
theorem p8(h:aK c p v)(hc:cR p=some l)(ho:∀q∈l,jT c.rows q):bA (aM c) l v.cells.toList ∧ ∀u∈v.cells.toList,u.oneCell'=true:=by
 have key:bA (aM c) l v.cells.toList:=by
  have one:∀q:PV,p=q->l = [q]->(aK c q v->aM c q v)->bA (aM c) l v.cells.toList:=by
   rintro q rfl rfl hq
   have h1:=hq h
   have h2:=h1.one (ho _ aG)
   have h3:v.cells = #[v]:=by cases v<;>simp_all [Value.cells,Value.oneCell']
   rw [h3]
   exact⟨h1,trivial⟩
  cases p with
  | ag l' =>
   simp only [cR,Option.some.injEq]at hc
   subst hc
   obtain⟨vs,rfl,D6⟩:=h
   simpa [Value.cells]using D6
  | dK _=>simp [cR]at hc
  | rC _ _ _=>simp [cR]at hc
  | undef=>simp [cR]at hc
  | _ =>
   simp only [cR,Option.some.injEq]at hc
   exact one _ rfl hc.symm (fun hh=>by simpa only [aK]using hh)
 refine⟨key,fun u hu=>?_⟩
 obtain⟨k,hk⟩:=List.getElem?_of_mem hu
 have hl:k<l.length:=by rw [key.length];exact(List.getElem?_eq_some_iff.1 hk).1
 obtain⟨u',h1,h2⟩:=key.get (List.getElem?_eq_getElem hl)
 rw [hk]at h1;cases h1
 exact h2.one (ho _ (List.getElem_mem hl))
theorem Inv.step(hI:Inv w0 S0 c)(hg:c.w.grownBy w' ob)(hob:∀g,ob=some g->w0.heap.size<=g ∧ ∀o,¬c.S g o) :
  Below w0.heap.size w0 w'∧(∀b o,c.S b o->w'.cell? ⟨b,o,none⟩=c.w.cell? ⟨b,o,none⟩):=by
 refine⟨hI.below.grown hg hI.below.size (fun k hk=>(hob k hk).1),fun b o hS=>World.cell?_of_block (hg.block b (hI.lt hS) ?_)⟩
 intro h
 exact(hob b h.symm).2 o hS
theorem Inv.set(hI:Inv w0 S0 c){r':Row}{v':Value}{xs:List Value}(hg:c.w.grownBy w' ob)
  (hob:∀g,ob=some g->w0.heap.size<=g∧(∀o,¬c.S g o) ∧ ∀lC r,c.rows lC=some r->lC≠id->(c.β lC).ownBlock≠some g)
  (lH:w'.ownsRow w0.heap.size r'.e r'.size v' r'.els.length xs) (gE:bA (aM c) r'.els.flatten xs) (lI:∀x∈xs,x.oneCell'=true)
  (hlen:∀e∈r'.els,e.length=r'.size) (mX:0<r'.size) (tD:∀g,v'.ownBlock=some g->ob=some g∨c.w.heap.size<=g) (lG:¬c.used r'.ver) :
  Inv w0 S0 { c with w:=w',β:=eO c.β id v',rows:=eO c.rows id (some r'),used:=fun v=>v=r'.ver∨c.used v } ∧
  xW c { c with w:=w',β:=eO c.β id v',rows:=eO c.rows id (some r'),used:=fun v=>v=r'.ver∨c.used v }:=by
 obtain⟨acR,LM⟩:=hI.step hg fun g h=>⟨(hob g h).1,(hob g h).2.1⟩
 have KH:xW c { c with w:=w',β:=eO c.β id v',rows:=eO c.rows id (some r'),used:=fun v=>v=r'.ver∨c.used v }:=by
  refine⟨fun _ _ h=>h,LM,fun _ h => .inr h,fun lC r hr=>?_⟩
  by_cases iH:lC=id
  ·subst iH
   simp only [iG,Option.some.injEq]at hr
   subst hr
   exact .inl lG
  ·simp only [kX _ _ iH]at hr |-
   exact .inr ⟨r,hr,rfl,rfl,rfl,by first | rfl | trivial⟩
 refine⟨⟨acR,hI.ext,fun b o h=>(hI.new b o h).imp (fun h=>h) fun h=>⟨h.1,Nat.lt_of_lt_of_le h.2 hg.size⟩,hI.lt0,fun lC r hr=>?_,fun lC r hr=>?_,fun i j r s g hr hs h1 h2=>?_,by
  obtain⟨N,hN⟩:=hI.fin
  refine⟨max N (r'.ver+1),fun v hv=>?_⟩
  rcases hv with hv | hv
  ·have hv:v=r'.ver:=hv
   omega
  ·have:=hN v hv
   omega⟩,KH⟩
 ·by_cases iH:lC=id
  ·subst iH
   simp only [iG,Option.some.injEq]at hr
   subst hr
   exact .inl rfl
  ·simp only [kX _ _ iH]at hr
   exact .inr (hI.clock lC r hr)
 ·by_cases iH:lC=id
  ·subst iH
   simp only [iG,Option.some.injEq]at hr
   subst hr
   refine⟨⟨xs,by simpa only [iG]using lH,gE.mono (aM.tB KH),lI⟩,hlen,fun g o RQ hS=>?_,mX⟩
   simp only [iG]at RQ
   rcases tD g RQ with h | h
   ·exact(hob g h).2.1 o hS
   ·have:=hI.lt (show c.S g o from hS);omega
  ·simp only [kX _ _ iH]at hr
   obtain⟨⟨ys,g1,g2,g3⟩,g4,g5,g6⟩:=hI.row lC r hr
   refine⟨⟨ys,?_,g2.mono (aM.tB KH),g3⟩,g4,fun g o RQ hS=>?_,g6⟩
   ·simp only [kX _ _ iH]
    refine g1.kept hg ?_
    cases hb:(c.β lC).ownBlock with
    | none=>exact .inl rfl
    | some g =>
     right
     intro he
     exact(hob g he.symm).2.2 lC r hr iH hb
   ·simp only [kX _ _ iH]at RQ
    exact g5 g o RQ hS
 ·-- apart
  have other:∀(k:Nat) (t:Row) (g:Nat),k≠id->c.rows k=some t->(c.β k).ownBlock=some g->v'.ownBlock=some g->False:=by
   intro k t g hk ht hb hv
   rcases tD g hv with h | h
   ·exact(hob g h).2.2 k t ht hk hb
   ·obtain⟨⟨ys,g1,_,_⟩,_⟩:=hI.row k t ht
    have:=(g1.lt g hb).2
    omega
  by_cases hi:i=id
  ·by_cases hj:j=id
   ·rw [hi,hj]
   ·subst hi
    simp only [iG,kX _ _ hj]at h1 h2 hs
    exact(other j s g hj hs h2 h1).elim
  ·by_cases hj:j=id
   ·subst hj
    simp only [iG,kX _ _ hi]at h1 h2 hr
    exact(other i r g hi hr h1 h2).elim
   ·simp only [kX _ _ hi,kX _ _ hj]at h1 h2 hr hs
    exact hI.apart i j r s g hr hs h1 h2
theorem Inv.eO(hI:Inv w0 S0 c){w':World}{id:Nat}{r r':Row}{xs:List Value}(hr:c.rows id=some r)(hg:c.w.grownBy w' (c.β id).ownBlock)
  (lH:w'.ownsRow w0.heap.size r'.e r'.size (c.β id) r'.els.length xs) (gE:bA (aM c) r'.els.flatten xs) (lI:∀x∈xs,x.oneCell'=true)
  (hlen:∀e∈r'.els,e.length=r'.size) (lG:r'.ver=r.ver) (anD:r'.size=r.size) (G0:r'.els.length=r.els.length) :
  Inv w0 S0 { c with w:=w',rows:=Pm.eO c.rows id (some r') }∧xW c { c with w:=w',rows:=Pm.eO c.rows id (some r') }:=by
 have hob:∀g,(c.β id).ownBlock=some g->w0.heap.size<=g ∧ ∀o,¬c.S g o:=by
  intro g h
  obtain⟨⟨ys,g1,_,_⟩,_,g5,_⟩:=hI.row id r hr
  exact⟨(g1.lt g h).1,fun o=>g5 g o h⟩
 obtain⟨acR,LM⟩:=hI.step hg hob
 have KH:xW c { c with w:=w',rows:=Pm.eO c.rows id (some r') }:=by
  refine⟨fun _ _ h=>h,LM,fun _ h=>h,fun lC s hs=>?_⟩
  by_cases iH:lC=id
  ·subst iH
   simp only [iG,Option.some.injEq]at hs
   subst hs
   exact .inr ⟨r,hr,lG.symm,anD.symm,G0.symm,rfl⟩
  ·simp only [kX _ _ iH]at hs
   exact .inr ⟨s,hs,rfl,rfl,rfl,rfl⟩
 refine⟨⟨acR,hI.ext,fun b o h=>(hI.new b o h).imp (fun h=>h) fun h=>⟨h.1,Nat.lt_of_lt_of_le h.2 hg.size⟩,hI.lt0,fun lC s hs=>?_,fun lC s hs=>?_,fun i j t s g ht hs h1 h2=>?_,hI.fin⟩,KH⟩
 ·by_cases iH:lC=id
  ·subst iH
   simp only [iG,Option.some.injEq]at hs
   subst hs
   rw [lG];exact hI.clock lC r hr
  ·simp only [kX _ _ iH]at hs
   exact hI.clock lC s hs
 ·by_cases iH:lC=id
  ·subst iH
   simp only [iG,Option.some.injEq]at hs
   subst hs
   exact⟨⟨xs,lH,gE.mono (aM.tB KH),lI⟩,hlen,(hI.row lC r hr).aCc,by rw [anD];exact(hI.row lC r hr).pos⟩
  ·simp only [kX _ _ iH]at hs
   obtain⟨⟨ys,g1,g2,g3⟩,g4,g5,g6⟩:=hI.row lC s hs
   refine⟨⟨ys,g1.kept hg ?_,g2.mono (aM.tB KH),g3⟩,g4,g5,g6⟩
   cases hb:(c.β lC).ownBlock with
   | none=>exact .inl rfl
   | some g =>
    right
    intro he
    exact iH (hI.apart lC id s r g hs hr hb he.symm)
 ·have live:∀k t,Pm.eO c.rows id (some r') k=some t -> ∃t',c.rows k=some t':=by
   intro k t hk
   by_cases iH:k=id
   ·subst iH;exact⟨r,hr⟩
   ·rw [kX _ _ iH]at hk;exact⟨t,hk⟩
  obtain⟨t',ht'⟩:=live i t ht
  obtain⟨s',CO⟩:=live j s hs
  exact hI.apart i j t' s' g ht' CO h1 h2
end
end Pm
