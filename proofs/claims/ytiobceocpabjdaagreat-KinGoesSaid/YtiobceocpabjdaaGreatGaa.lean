import Derived.WalkKit
import Derived.StillTail
import Derived.Maps.AppendAt
set_option linter.unusedSimpArgs false
set_option linter.unusedVariables false
namespace Pm
open Go Go.RowKit List
variable {a:Act}{b o i n id g cap j len m:Nat}{w0 w' w:World}{v vx vy:Value}{d:Option TypeDesc}{P:Program}{t e:TypeId}{k:Int}{ox oy:Operand}{fs:List (Nat × Nat × Bool)}{kk:IntKind}{Xs Xt Xv:Option Value}{α:Type}{ob:Option Nat}
theorem aa{p:Prop}(h:p:=by omega):p:=h
theorem ar{p:Prop}(h:p:=by decide):p:=h
theorem av{p:Prop}(h:p:=by simp):p:=h
theorem aG{p:Prop}(h:p:=by grind):p:=h
theorem au{a b:Prop}(h:a)(t:a->b:=by intro h;simpa using h):b:=t h
inductive PV where
 | undef
 | bool (b:Bool)
 | int (k:IntKind) (n:Int)
 | str (s:ByteArray)
 | nil
 | sl (l:List (List PV))
 | iE (l:List (List PV))
 | rd (l:List PV)
 | fn (f:FuncId) (bF:List PV)
 | own (id ver off len:Nat)
 | ptr (id ver i j:Nat)
 | ag (l:List PV)
 | cW (l:List PV)
 | kg
 | lR (f:FuncId) (fs bF:List PV)
 | m7 (t:TypeId) (id ver:Nat)
variable {p x:PV}{f:Nat->PV}{l z:List PV}{lo hi mx:Option PV}
abbrev dz:=Nat->Nat->Prop
variable {S0 S:dz}
mutual
def de(S:dz)(w:World):PV->Value->Prop
 | .undef,_=>False
 | .bool b,v=>v = .bool b
 | .int k n,v=>v = .int k n
 | .str s,v=>v = .string s
 | .nil,v=>v = .slice none 0 0
 | .sl l,v=>∃a cap,v = .slice a l.length cap∧l.length<=cap∧cap<=maxLen∧(l = [] ∨ ∃b o,a=some ⟨b,o,none⟩∧fL S w b o l)
 | .iE l,v=>∃a,v = .slice a l.length l.length∧l.length<=maxLen∧(l = [] ∨ ∃b o,a=some ⟨b,o,none⟩∧fL S w b o l)
 | .rd l,v=>∃b o,v = .pointer (some ⟨b,o,none⟩)∧dk S w b o l
 | .fn f bF,v=>∃cs,v = .func (.func f) #[] cs.toArray∧bO S w bF cs
 | .own _ _ _ _,_=>False
 | .ptr _ _ _ _,_=>False
 | .lR _ _ _,_=>False
 | .m7 _ _ _,_=>False
 | .ag l,v=>∃vs,v = .agg vs.toArray∧bO S w l vs
 | .cW l,v=>∃vs,v = .tuple vs.toArray∧bO S w l vs
 | .kg,v=>v = .pointer none
def bO(S:dz)(w:World):List PV->List Value->Prop
 | [],vs=>vs = []
 | p::ps,vs=>∃v tM,vs=v::tM∧de S w p v∧bO S w ps tM
def dk(S:dz)(w:World)(b o:Nat):List PV->Prop
 | []=>True
 | p::ps=>(∃v,w.cell? ⟨b,o,none⟩=some v∧S b o∧v.oneCell'=true∧de S w p v)∧dk S w b (o+1) ps
def fL(S:dz)(w:World)(b o:Nat):List (List PV)->Prop
 | []=>True
 | e::es=>dk S w b o e∧fL S w b (o+e.length) es
end
section mono
variable {S S':dz} {w w':World}
mutual
theorem de.mono(hS:∀b o,S b o->S' b o)(hw:∀b o,S b o->w'.cell? ⟨b,o,none⟩=w.cell? ⟨b,o,none⟩):∀(p:PV) (v:Value),de S w p v->de S' w' p v
 | .undef,_,h=>by simp [de]at h
 | .bool b,_,h=>by simpa [de]using h
 | .int k n,_,h=>by simpa [de]using h
 | .str s,_,h=>by simpa [de]using h
 | .kg,_,h=>by simpa [de]using h
 | .nil,_,h=>by simpa [de]using h
 | .sl l,v,h=>by simp only [de]at h |-;obtain⟨a,cap,h1,h2,h3,h4⟩:=h;exact⟨a,cap,h1,h2,h3,h4.imp id fun⟨b,o,ha,hr⟩=>⟨b,o,ha,fL.mono hS hw l b o hr⟩⟩
 | .iE l,v,h=>by simp only [de]at h |-;obtain⟨a,h1,h3,h4⟩:=h;exact⟨a,h1,h3,h4.imp id fun⟨b,o,ha,hr⟩=>⟨b,o,ha,fL.mono hS hw l b o hr⟩⟩
 | .rd l,v,h=>by simp only [de]at h |-;obtain⟨b,o,h1,h2⟩:=h;exact⟨b,o,h1,dk.mono hS hw l b o h2⟩
 | .fn f bF,v,h=>by simp only [de]at h |-;obtain⟨cs,h1,h2⟩:=h;exact⟨cs,h1,bO.mono hS hw bF cs h2⟩
 | .own _ _ _ _,_,h=>by simp [de]at h
 | .ptr _ _ _ _,_,h=>by simp [de]at h
 | .lR _ _ _,_,h=>by simp [de]at h
 | .m7 _ _ _,_,h=>by simp [de]at h
 | .ag l,v,h=>by simp only [de]at h |-;obtain⟨cs,h1,h2⟩:=h;exact⟨cs,h1,bO.mono hS hw l cs h2⟩
 | .cW l,v,h=>by simp only [de]at h |-;obtain⟨cs,h1,h2⟩:=h;exact⟨cs,h1,bO.mono hS hw l cs h2⟩
theorem bO.mono(hS:∀b o,S b o->S' b o)(hw:∀b o,S b o->w'.cell? ⟨b,o,none⟩=w.cell? ⟨b,o,none⟩):∀(l:List PV) (vs:List Value),bO S w l vs->bO S' w' l vs
 | [],_,h=>by simpa [bO]using h
 | p::ps,vs,h=>by simp only [bO]at h |-;obtain⟨v,tM,h1,h2,h3⟩:=h;exact⟨v,tM,h1,de.mono hS hw p v h2,bO.mono hS hw ps tM h3⟩
theorem dk.mono(hS:∀b o,S b o->S' b o)(hw:∀b o,S b o->w'.cell? ⟨b,o,none⟩=w.cell? ⟨b,o,none⟩):∀(l:List PV) (b o:Nat),dk S w b o l->dk S' w' b o l
 | [],_,_,_=>by simp [dk]
 | p::ps,b,o,h=>by simp only [dk]at h |-;obtain⟨⟨v,h1,h2,h5,h3⟩,h4⟩:=h;exact⟨⟨v,by rw [hw b o h2];exact h1,hS b o h2,h5,de.mono hS hw p v h3⟩,dk.mono hS hw ps b (o+1) h4⟩
theorem fL.mono(hS:∀b o,S b o->S' b o)(hw:∀b o,S b o->w'.cell? ⟨b,o,none⟩=w.cell? ⟨b,o,none⟩):∀(l:List (List PV)) (b o:Nat),fL S w b o l->fL S' w' b o l
 | [],_,_,_=>by simp [fL]
 | e::es,b,o,h=>by simp only [fL]at h |-;exact⟨dk.mono hS hw e b o h.1,fL.mono hS hw es b (o+e.length) h.2⟩
end
end mono
def aN{α β:Type}(R:α->β->Prop):List α->List β->Prop
 | [],[]=>True
 | a::aBq,b::bs=>R a b∧aN R aBq bs
 | _,_=>False
section aqp
variable {α β:Type} {R R':α->β->Prop}
theorem aN.mono(h:∀a b,R a b->R' a b):∀ {l:List α} {m:List β},aN R l m->aN R' l m
 | [],[],_=>trivial
 | _::_,_::_,hh=>⟨h _ _ hh.1,aN.mono h hh.2⟩
 | [],_::_,hh=>hh.elim
 | _::_,[],hh=>hh.elim
theorem aN.length:∀ {l:List α} {m:List β},aN R l m->l.length=m.length
 | [],[],_=>rfl
 | _::_,_::_,hh=>by simp [aN.length hh.2]
 | [],_::_,hh=>hh.elim
 | _::_,[],hh=>hh.elim
theorem aN.get:∀ {l:List α} {m:List β},aN R l m -> ∀ {k:Nat} {a:α},l[k]? = some a -> ∃b,m[k]? = some b∧R a b
 | [],[],_,_,_,h=>by simp at h
 | _::_,_::_,hh,0,_,h=>by simp at h;subst h;exact⟨_,av,hh.1⟩
 | _::_,_::_,hh,k+1,_,h=>by simp at h;simpa using aN.get hh.2 h
 | [],_::_,hh,_,_,_=>hh.elim
 | _::_,[],hh,_,_,_=>hh.elim
theorem aN.bT:∀ {l:List α} {m:List β},l.length=m.length->(∀(k:Nat) a b,l[k]? = some a->m[k]? = some b->R a b)->aN R l m
 | [],[],_,_=>trivial
 | a::l,b::m,hl,h=>⟨h 0 a b av av,aN.bT (au hl) fun k x y hx hy=>h (k+1) x y (au hx) (au hy)⟩
 | [],_::_,hl,_=>by simp at hl
 | _::_,[],hl,_=>by simp at hl
theorem aN.append:∀ {l:List α} {m:List β} {l':List α} {m':List β},aN R l m->aN R l' m'->aN R (l++l') (m++m')
 | [],[],_,_,_,h=>by simpa using h
 | _::_,_::_,_,_,hh,h=>⟨hh.1,aN.append hh.2 h⟩
 | [],_::_,_,_,hh,_=>hh.elim
 | _::_,[],_,_,hh,_=>hh.elim
theorem aN.take{l:List α}{m:List β}(h:aN R l m)(n:Nat):aN R (l.take n) (m.take n):=
 aN.bT (by simp [h.length]) fun k a b ha hb=>by
  rw [getElem?_take]at ha hb
  split at ha
  ·rename_i hk;rw [if_pos hk]at hb;obtain⟨b',gC,hr⟩:=h.get ha;rw [hb]at gC;cases gC;exact hr
  ·cases ha
theorem aN.drop{l:List α}{m:List β}(h:aN R l m)(n:Nat):aN R (l.drop n) (m.drop n):=
 aN.bT (by simp [h.length]) fun k a b ha hb=>by rw [getElem?_drop]at ha hb;obtain⟨b',gC,hr⟩:=h.get ha;rw [hb]at gC;cases gC;exact hr
end aqp
theorem cI{S:dz}{w:World}:∀ {l:List PV} {vs:List Value},bO S w l vs↔aN (de S w) l vs
 | [],[]=>by simp [bO,aN]
 | [],_::_=>by simp [bO,aN]
 | p::ps,[]=>by simp [bO,aN]
 | p::ps,v::vs=>by
  simp only [bO,aN]
  constructor
  ·rintro⟨v',tM,h,h1,h2⟩;cases h;exact⟨h1,cI.1 h2⟩
  ·rintro⟨h1,h2⟩;exact⟨v,vs,rfl,h1,cI.2 h2⟩
structure Row where
 ver:Nat
 e:TypeId
 size:Nat
 els:List (List PV)
variable {r:Row}
abbrev Rows:=Nat->Option Row
structure Cx where
 S:dz
 w:World
 β:Nat->Value
 rows:Rows
 used:Nat->Prop
variable {c:Cx}
def aB(c:Cx):PV->Value->Prop
 | .undef,_=>True
 | .own id ver off len,v=>c.used ver ∧ ∀r,c.rows id=some r->r.ver=ver->off+len<=r.els.length ∧
   ((off=0 ∧ ∃a n cap,c.β id = .slice a n cap∧v = .slice a len cap) ∨
    (0<off ∧ ∃g n cap a,c.β id = .slice (some ⟨g,0,none⟩) n cap∧off<=cap∧v = .slice (some a) len (cap-off)∧(len=0∨a=⟨g,off*r.size,none⟩)))
 | .ptr id ver i j,v=>(c.used ver∧v.oneCell'=true) ∧ ∀r,c.rows id=some r->r.ver=ver -> ∃g n cap,c.β id = .slice (some ⟨g,0,none⟩) n cap∧v = .pointer (some ⟨g,i*r.size+j,none⟩)
 | .m7 t id ver,v=>(c.used ver∧v.oneCell'=true) ∧ ∀r,c.rows id=some r->r.ver=ver -> ∃g n cap,c.β id = .slice (some ⟨g,0,none⟩) n cap∧v = .iface t (.pointer (some ⟨g,0,none⟩))
 | p,v=>de c.S c.w p v
def az(c:Cx):PV->Value->Prop
 | .ag l,v=>∃vs,v = .agg vs.toArray∧aN (aB c) l vs
 | .cW l,v=>∃vs,v = .tuple vs.toArray∧aN (aB c) l vs
 | .lR f fs bF,v=>∃us cs,v = .func (.func f) us.toArray cs.toArray∧aN (aB c) fs us∧aN (aB c) bF cs
 | p,v=>aB c p v
structure ajO(w0:World)(c:Cx)(id:Nat)(r:Row):Prop where
 own:∃xs,c.w.ownsRow w0.heap.size r.e r.size (c.β id) r.els.length xs∧aN (aB c) r.els.flatten xs∧(∀x∈xs,x.oneCell'=true)
 len:∀e∈r.els,e.length=r.size
 aqq:∀g o,(c.β id).ownBlock=some g->¬c.S g o
 pos:0<r.size
structure Inv(w0:World)(S0:dz)(c:Cx):Prop where
 below:Below w0.heap.size w0 c.w
 ext:∀b o,S0 b o->c.S b o
 new:∀b o,c.S b o->S0 b o∨(w0.heap.size<=b∧b<c.w.heap.size)
 XV:∀b o,S0 b o->b<w0.heap.size
 clock:∀id r,c.rows id=some r->c.used r.ver
 row:∀id r,c.rows id=some r->ajO w0 c id r
 apart:∀id iX r r' g,c.rows id=some r->c.rows iX=some r'->(c.β id).ownBlock=some g->(c.β iX).ownBlock=some g->id=iX
 fin:∃N,∀v,c.used v->v<N
theorem Inv.lt(h:Inv w0 S0 c)(hb:c.S b o):b<c.w.heap.size:=by
 rcases h.new b o hb with h1 | h1
 ·have:=h.XV b o h1;have:=h.below.size;omega
 ·exact h1.2
structure so(c c':Cx):Prop where
 S:∀b o,c.S b o->c'.S b o
 w:∀b o,c.S b o->c'.w.cell? ⟨b,o,none⟩=c.w.cell? ⟨b,o,none⟩
 clock:∀v,c.used v->c'.used v
 rows:∀id r',c'.rows id=some r'->¬c.used r'.ver ∨ ∃r,c.rows id=some r∧r.ver=r'.ver∧r.size=r'.size∧r.els.length=r'.els.length∧c'.β id=c.β id
theorem so.refl(c:Cx):so c c:=⟨fun _ _ h=>h,fun _ _ _=>rfl,fun _ h=>h,fun _ r h => .inr ⟨r,h,rfl,rfl,rfl,rfl⟩⟩
theorem aB.pM{c':Cx}(h:so c c'):∀(p:PV) (v:Value),aB c p v->aB c' p v:=by
 intro p v hp;cases p with
 | undef=>simp [aB]
 | own id ver off len =>
  simp only [aB]at hp |-;refine⟨h.clock _ hp.1,fun r' gI hv=>?_⟩
  rcases h.rows id r' gI with h1 | ⟨r,h1,h2,h3,h4,h5⟩
  ·exact absurd (show c.used r'.ver by rw [hv];exact hp.1) h1
  ·have:=hp.2 r h1 (h2.trans hv);rw [h5,<-h3,<-h4];exact this
 | ptr id ver i j =>
  simp only [aB]at hp |-;refine⟨⟨h.clock _ hp.1.1,hp.1.2⟩,fun r' gI hv=>?_⟩
  rcases h.rows id r' gI with h1 | ⟨r,h1,h2,h3,h4,h5⟩
  ·exact absurd (show c.used r'.ver by rw [hv];exact hp.1.1) h1
  ·have:=hp.2 r h1 (h2.trans hv);rw [h5,<-h3];exact this
 | m7 t id ver =>
  simp only [aB]at hp |-;refine⟨⟨h.clock _ hp.1.1,hp.1.2⟩,fun r' gI hv=>?_⟩
  rcases h.rows id r' gI with h1 | ⟨r,h1,h2,h3,h4,h5⟩
  ·exact absurd (show c.used r'.ver by rw [hv];exact hp.1.1) h1
  ·have:=hp.2 r h1 (h2.trans hv);rw [h5];exact this
 | _=>simp only [aB]at hp |-;exact de.mono h.S h.w _ _ hp
theorem az.pM{c c':Cx}(h:so c c'):∀(p:PV) (v:Value),az c p v->az c' p v:=by
 intro p v hp;cases p with
 | ag l=>obtain⟨vs,h1,h2⟩:=hp;exact⟨vs,h1,h2.mono (aB.pM h)⟩
 | cW l=>obtain⟨vs,h1,h2⟩:=hp;exact⟨vs,h1,h2.mono (aB.pM h)⟩
 | lR f fs bF=>obtain⟨us,cs,h1,h2,h3⟩:=hp;exact⟨us,cs,h1,h2.mono (aB.pM h),h3.mono (aB.pM h)⟩
 | _=>simp only [az]at hp |-;exact aB.pM h _ _ hp
def aF:PV->Bool
 | .undef=>false
 | .own .. => false
 | .ptr .. => false
 | .lR .. => false
 | .m7 .. => false
 | _=>true
def cB:PV->Bool
 | .ag l=>l.all aF
 | .cW l=>l.all aF
 | p=>aF p
theorem aB.rep(h:aB c p v)(hp:aF p=true):de c.S c.w p v:=by cases p<;>simp_all [aF,aB]
theorem aB.ia(h:de c.S c.w p v):aB c p v:=by cases p<;>simp_all [aB,de]
theorem az.rep{c:Cx}{p:PV}{v:Value}(h:az c p v)(hp:cB p=true):de c.S c.w p v:=by
 cases p with
 | ag l =>
  obtain⟨vs,h1,h2⟩:=h;simp only [de];refine⟨vs,h1,cI.2 (aN.bT h2.length fun k a b ha hb=>?_)⟩;obtain⟨b',gC,hr⟩:=h2.get ha;rw [hb]at gC;cases gC;exact hr.rep (all_eq_true.1 hp a (mem_of_getElem? ha))
 | cW l =>
  obtain⟨vs,h1,h2⟩:=h;simp only [de];refine⟨vs,h1,cI.2 (aN.bT h2.length fun k a b ha hb=>?_)⟩;obtain⟨b',gC,hr⟩:=h2.get ha;rw [hb]at gC;cases gC;exact hr.rep (all_eq_true.1 hp a (mem_of_getElem? ha))
 | lR=>simp [cB,aF]at hp
 | _=>simp only [az]at h;exact aB.rep h hp
theorem az.ia{c:Cx}{p:PV}{v:Value}(h:de c.S c.w p v):az c p v:=by
 cases p with
 | ag l =>
  simp only [de]at h;obtain⟨vs,h1,h2⟩:=h;exact⟨vs,h1,(cI.1 h2).mono fun _ _=>aB.ia⟩
 | cW l =>
  simp only [de]at h;obtain⟨vs,h1,h2⟩:=h;exact⟨vs,h1,(cI.1 h2).mono fun _ _=>aB.ia⟩
 | lR=>simp [de]at h
 | _=>simp only [az];exact aB.ia h
theorem Inv.grow(h:Inv w0 S0 c){S':dz}(hb:Below c.w.heap.size c.w w')
  (h1:∀b o,c.S b o->S' b o) (h2:∀b o,S' b o->c.S b o∨(c.w.heap.size<=b∧b<w'.heap.size)) :
  Inv w0 S0 { c with S:=S',w:=w' }∧so c { c with S:=S',w:=w' }:=by
 have Cg:so c { c with S:=S',w:=w' }:=⟨h1,fun b o hbo=>hb.cell (p:=⟨b,o,none⟩) (h.lt hbo),fun _ h=>h,fun id r hr => .inr ⟨r,hr,rfl,rfl,rfl,rfl⟩⟩
 refine⟨⟨h.below.trans (hb.mono h.below.size),fun b o hh=>h1 b o (h.ext b o hh),fun b o hh=>?_,h.XV,h.clock,fun id r hr=>?_,h.apart,h.fin⟩,Cg⟩
 ·rcases h2 b o hh with h3 | h3
  ·rcases h.new b o h3 with h4 | h4
   ·exact .inl h4
   ·exact .inr ⟨h4.1,by have:=hb.size;show b<w'.heap.size;omega⟩
  ·exact .inr ⟨by have:=h.below.size;omega,h3.2⟩
 ·obtain⟨⟨xs,g1,g2,g3⟩,hlen,hnS,jO⟩:=h.row id r hr;refine⟨⟨xs,g1.kept (row:=none) ⟨hb.os,hb.tape,hb.output,hb.size,fun k hk _=>hb.block k hk⟩ (by cases (c.β id).ownBlock<;>simp),g2.mono (aB.pM Cg),g3⟩,hlen,fun g o hg hS=>?_,jO⟩
  rcases h2 g o hS with h3 | h3
  ·exact hnS g o hg h3
  ·have:=(g1.lt g hg).2;omega
inductive TI where
 | int (k:IntKind)
 | bool
 | str
 | slice (e:TypeId) (n b:Nat) (z:List PV)
 | struct (fs:List (Nat × Nat × Bool)) (z:List PV)
 | arr (e:TypeId) (k n:Nat) (z:List PV)
 | wO
 | fnT
 | other
variable {ti:TI}
def jh:Value->PV
 | .bool b => .bool b
 | .int k n => .int k n
 | .string s => .str s
 | .slice none 0 0 => .nil
 | .func (.func f) ⟨[]⟩ ⟨[]⟩ => .fn f []
 | .pointer none => .kg
 | _ => .undef
def nT:Value->PV
 | .agg cs => .ag (cs.toList.map jh)
 | v=>jh v
def TI.zero:TI->List PV
 | .int k=>[.int k 0]
 | .bool=>[.bool false]
 | .str=>[.str ⟨#[]⟩]
 | .slice _ _ _ _=>[.nil]
 | .struct _ z=>z
 | .arr _ _ _ z=>z
 | .wO=>[.kg]
 | .fnT=>[.undef]
 | .other=>[]
def TI.agg:TI->Bool
 | .struct _ _=>true
 | .arr _ _ _ _=>true
 | _=>false
def TI.size(t:TI):Nat:=t.zero.length
def TI.known:TI->Bool
 | .other=>false
 | _=>true
def Mw:Option TypeDesc->Bool
 | some (.struct _)=>true
 | some (.array _ _)=>true
 | _=>false
def qD(P:Program)(t:TypeId):Bool:=Mw (P.underlying t)
structure lu(P:Program)(t:TypeId)(n:Nat)(z:List PV):Prop where
 ok:∃i v,P.info? t=some i∧i.zero=some v∧i.size=n∧v.cells.toList.map jh=z∧v.cells.all (·.oneCell')=true
 len:z.length=n
 pos:0<n
structure nm(P:Program)(f:Field)(x:Nat × Nat × Bool):Prop where
 off:f.offset=x.1
 size:∃i,P.info? f.type=some i∧i.size=x.2.1
 pos:0<x.2.1
 agg:qD P f.type=x.2.2
 und:∃d,P.underlying f.type=some d
def adV:Option TypeDesc->Bool
 | some (.pointer _)=>true
 | _=>false
def fnD:Option TypeDesc->Bool
 | some (.func _ _ _)=>true
 | _=>false
theorem qE(h:adV d=true):∃e,d=some (.pointer e):=by
 unfold adV at h
 split at h
 ·exact⟨_,rfl⟩
 ·cases h
theorem Mx(h:fnD d=true):∃a b c,d=some (.func a b c):=by
 unfold fnD at h
 split at h
 ·exact⟨_,_,_,rfl⟩
 ·cases h
def eF(P:Program)(t:TypeId):TI->Prop
 | .int k=>P.underlying t=some (.int k)∧lu P t 1 [.int k 0]
 | .bool=>P.underlying t=some .bool∧lu P t 1 [.bool false]
 | .str=>P.underlying t=some .string∧lu P t 1 [.str ⟨#[]⟩]
 | .slice e n b z=>P.underlying t=some (.slice e)∧lu P t 1 [.nil]∧lu P e n z ∧ ∃i,P.info? e=some i∧i.bytes=b
 | .struct fs z=>(∃fields:Array Field,P.underlying t=some (.struct fields)∧aN (nm P) fields.toList fs)∧lu P t z.length z
 | .arr e k n z=>P.underlying t=some (.array k e)∧lu P t z.length z ∧ ∃i,P.info? e=some i∧i.size=n
 | .wO=>adV (P.underlying t)=true∧lu P t 1 [.kg]
 | .fnT=>fnD (P.underlying t)=true∧lu P t 1 [.undef]
 | .other=>True
structure Env where
 P:Program
 ty:TypeId->TI
 ok:∀t,eF P t (ty t)
 mixed:P.follows .mixedOrders=true
 writes:FuncId->Bool
 uN:FuncId->Bool
theorem eF.zero(h:eF P t ti)(hk:ti.known=true):lu P t ti.size ti.zero:=by
 cases ti with
 | other=>simp [TI.known]at hk
 | struct fs z=>exact h.2
 | slice e n b z=>exact h.2.1
 | arr e k n z=>exact h.2.1
 | _=>exact h.2
theorem eF.ajQ(h:eF P t ti)(hk:ti.known=true):qD P t=ti.agg:=by
 unfold qD;cases ti with
 | other=>simp [TI.known]at hk
 | struct fs z=>obtain⟨⟨f,h1,_⟩,_⟩:=h;rw [h1];rfl
 | slice e n b z=>rw [h.1];rfl
 | arr e k n z=>rw [h.1];rfl
 | int k=>rw [h.1];rfl
 | bool=>rw [h.1];rfl
 | str=>rw [h.1];rfl
 | wO=>obtain⟨e,he⟩:=qE h.1;rw [he];rfl
 | fnT=>obtain⟨a,b,c,he⟩:=Mx h.1;rw [he];rfl
theorem eF.und(h:eF P t ti)(hk:ti.known=true):∃d,P.underlying t=some d:=by
 cases ti with
 | other=>simp [TI.known]at hk
 | struct fs z=>obtain⟨⟨f,h1,_⟩,_⟩:=h;exact⟨_,h1⟩
 | slice e n b z=>exact⟨_,h.1⟩
 | arr e k n z=>exact⟨_,h.1⟩
 | int k=>exact⟨_,h.1⟩
 | bool=>exact⟨_,h.1⟩
 | str=>exact⟨_,h.1⟩
 | wO=>obtain⟨e,he⟩:=qE h.1;exact⟨_,he⟩
 | fnT=>obtain⟨a,b,c,he⟩:=Mx h.1;exact⟨_,he⟩
section runs
variable {P:Program} {w:World}
theorem mq{d:TypeDesc}(h:P.underlying t=some d):(isAgg t).run P w = .ok (qD P t) w:=by unfold qD;simp only [isAgg,Sem.run_bind,run_underlying h,Result.andThen_ok,h];cases d<;>rfl
theorem c7{i:TypeInfo}(h:P.info? t=some i):(Go.sizeOf t).run P w = .ok i.size w:=by simp [Go.sizeOf,typeInfo,h]
end runs
structure PS where
 f:Nat->PV
 rows:Rows
 clock:Nat
def put(f:Nat->PV)(d:Option Tmp)(v:PV):Nat->PV:=
 match d with
 | some d=>fun j=>if j=d then v else f j
 | none=>f
def PS.put(σ:PS)(d:Option Tmp)(v:PV):PS:={ σ with f:=Pm.put σ.f d v }
def aJ(f:Nat->PV):Operand->PV
 | .tmp t=>f t
 | .const v=>nT v
 | .func g => .fn g []
 | .global _ => .undef
def fz(rows:Rows):PV->PV
 | .own id ver off len =>
  match rows id with
  | some r=>if r.ver=ver then .sl ((r.els.drop off).take len)else .undef
  | none => .undef
 | .ptr id ver i j =>
  match rows id with
  | some r=>if r.ver=ver then .rd ((r.els.getD i []).drop j)else .undef
  | none => .undef
 | .nil => .sl []
 | .iE l => .sl l
 | p=>p
def pz(rows:Rows):PV->PV
 | .ag l => .ag (l.map (fz rows))
 | .cW l => .cW (l.map (fz rows))
 | p=>fz rows p
def aL:PV->List Nat
 | .own id _ _ _=>[id]
 | .ptr id _ _ _=>[id]
 | .m7 _ id _=>[id]
 | _=>[]
def dA:PV->List Nat
 | .ag l=>l.flatMap aL
 | .cW l=>l.flatMap aL
 | .lR _ fs bF=>(fs++bF).flatMap aL
 | p=>aL p
def Xr(P:Program)(f:FuncId)(args:List PV)(r:PV):Prop:=
 (∃fn c,P.funcs[f]? = some fn∧fn.body=some c∧(fn.name == "runtime.NumGoroutine")=false) ∧
 ∀(w:World) (S:dz) (vs:List Value),(∀b o,S b o->b<w.heap.size)->bO S w args vs ->
  Calls P f vs.toArray w fun e w'=>∃v,e = .returned v∧Below w.heap.size w w' ∧
   ∃S':dz,(∀b o,S b o->S' b o)∧(∀b o,S' b o->S b o∨(w.heap.size<=b∧b<w'.heap.size))∧de S' w' r v
def qF(k:IntKind)(a b:Int):Int:=k.wrap (((BitVec.ofInt k.bits a) ||| (BitVec.ofInt k.bits b)).toNat:Int)
def Sv(k:IntKind)(a b:Int):Int:=k.wrap (((BitVec.ofInt k.bits a) &&& (BitVec.ofInt k.bits b)).toNat:Int)
def jt:List PV->List Int
 | .int _ n::r=>n::jt r
 | _=>[]
def allI:List PV->Bool
 | []=>true
 | .int .i64 _::r=>allI r
 | _=>false
def iV(n:Int):Value:=.int .i64 n
structure XW(P:Program)(t:TypeId)(n:Nat):Prop where
 run:∀(w:World) (xs ys:List Int),xs.length=n->ys.length=n->(Op.equal t (.agg (xs.map iV).toArray) (.agg (ys.map iV).toArray)).run P w = .ok (decide (xs=ys)) w
 guard:P.eqGuardType P.depth t=false
def Eg(E:Env)(op:BinOp)(t:TypeId)(x y v:PV):Prop:=
 match x,y with
 | .ag a, .ag b =>
  match op with
  | .eql=>(XW E.P t a.length∧allI a=true∧allI b=true∧b.length=a.length)∧v = .bool (decide (jt a=jt b))
  | .neq=>(XW E.P t a.length∧allI a=true∧allI b=true∧b.length=a.length)∧v = .bool (!decide (jt a=jt b))
  | _=>False
 | .int k a, .int k2 b =>
  match op with
  | .add=>k=k2∧v = .int k (k.wrap (a+b))
  | .sub=>k=k2∧v = .int k (k.wrap (a-b))
  | .mul=>k=k2∧v = .int k (k.wrap (a*b))
  | .quo=>k=k2∧b≠0∧v = .int k (k.wrap (a.tdiv b))
  | .rem=>k=k2∧b≠0∧v = .int k (a.tmod b)
  | .shl=>0<=b∧v = .int k (k.wrap (a*2^(min b.toNat k.bits)))
  | .shr=>0<=b∧v = .int k (a.fdiv (2^(min b.toNat k.bits)))
  | .or=>k=k2∧v = .int k (qF k a b)
  | .and=>k=k2∧v = .int k (Sv k a b)
  | .eql=>k=k2∧v = .bool (a==b)
  | .neq=>k=k2∧v = .bool (a != b)
  | .lss=>k=k2∧v = .bool (decide (a<b))
  | .leq=>k=k2∧v = .bool (decide (a<=b))
  | .gtr=>k=k2∧v = .bool (decide (b<a))
  | .geq=>k=k2∧v = .bool (decide (b<=a))
  | _=>False
 | .bool a, .bool b =>
  match op with
  | .eql=>E.ty t = .bool∧v = .bool (a==b)
  | .neq=>E.ty t = .bool∧v = .bool (a != b)
  | _=>False
 | .kg, .kg =>
  match op with
  | .eql=>E.ty t = .wO∧v = .bool true
  | .neq=>E.ty t = .wO∧v = .bool false
  | _=>False
 | .rd _, .kg =>
  match op with
  | .eql=>E.ty t = .wO∧v = .bool false
  | .neq=>E.ty t = .wO∧v = .bool true
  | _=>False
 | _,_=>False
def qG(E:Env)(t:TypeId)(rows:Rows)(p v:PV):Prop:=
 (E.ty t).known=true ∧
 match p with
 | .rd l=>if (E.ty t).agg=true then(E.ty t).size<=l.length∧v = .ag (l.take (E.ty t).size)else l[0]? = some v
 | .ptr id ver i j=>∃r,rows id=some r∧r.ver=ver ∧ ∃el,r.els[i]? = some el ∧
   (if (E.ty t).agg=true then j+(E.ty t).size<=el.length∧v = .ag ((el.drop j).take (E.ty t).size)else el[j]? = some v)
 | _=>False
def wP(E:Env)(t:TypeId)(i:Nat)(x v:PV):Prop:=
 match E.ty t with
 | .struct fs _=>∃o n b,fs[i]? = some (o,n,b) ∧
  match x with
  | .ag l=>if b=true then v = .ag ((l.drop o).take n)else l[o]? = some v
  | _=>False
 | _=>False
def dO(E:Env)(t:TypeId)(rows:Rows)(i:Nat)(x v:PV):Prop:=
 match E.ty t with
 | .struct fs _=>∃o n b,fs[i]? = some (o,n,b) ∧
  match x with
  | .rd l=>o<=l.length∧v = .rd (l.drop o)
  | .ptr id ver a j=>(∃r,rows id=some r∧r.ver=ver)∧v = .ptr id ver a (j+o)
  | _=>False
 | _=>False
def eG(E:Env)(t:TypeId)(rows:Rows)(x ix v:PV):Prop:=
 match E.ty t with
 | .slice _ n _ _ =>
  match ix with
  | .int _ k=>0<=k ∧
   match x with
   | .sl l=>∃el,l[k.toNat]? = some el∧(∀e∈l,e.length=n)∧v = .rd el
   | .iE l=>∃el,l[k.toNat]? = some el∧(∀e∈l,e.length=n)∧v = .rd el
   | .own id ver off len=>∃r,rows id=some r∧r.ver=ver∧r.size=n∧k.toNat<len∧v = .ptr id ver (off+k.toNat) 0
   | _=>False
  | _=>False
 | .arr _ m n _ =>
  match ix with
  | .int _ k=>(0<=k∧k.toNat<m) ∧
   match x with
   | .rd l=>k.toNat*n<=l.length∧v = .rd (l.drop (k.toNat*n))
   | .ptr id ver a j=>(∃r,rows id=some r∧r.ver=ver)∧v = .ptr id ver a (j+k.toNat*n)
   | _=>False
  | _=>False
 | _=>False
def uH(d:Nat):Option PV->Nat->Prop
 | none,n=>n=d
 | some (.int _ k),n=>0<=k∧n=k.toNat
 | some _,_=>False
def Jx(l:List (List PV))(a b:Nat)(hi mx:Option PV)(v:PV):Prop:=
 match mx with
 | none=>v = .sl ((l.take b).drop a)
 | some m=>∃c,uH 0 (some m) c∧b=c∧hi.isSome=true∧v = .iE ((l.take b).drop a)
def nU(E:Env)(t:TypeId)(rows:Rows)(x:PV)(lo hi mx:Option PV)(v:PV):Prop:=
 match E.ty t with
 | .slice _ n _ _ =>
  match x with
  | .nil=>∃a b,uH 0 lo a∧uH 0 hi b∧a=0∧b=0∧mx.isNone=true∧v = .nil
  | .sl l=>∃a b,uH 0 lo a∧uH l.length hi b∧a<=b∧b<=l.length∧(∀e∈l,e.length=n) ∧
   Jx l a b hi mx v
  | .iE l=>∃a b,uH 0 lo a∧uH l.length hi b∧a<=b∧b<=l.length∧(∀e∈l,e.length=n) ∧
   Jx l a b hi mx v
  | .own id ver off len=>∃r,rows id=some r∧r.ver=ver∧r.size=n ∧ ∃a b,uH 0 lo a∧uH len hi b∧a<=b∧b<=len∧mx.isNone=true∧v = .own id ver (off+a) (b-a)
  | _=>False
 | _=>False
def Pc(rows:Rows)(x:PV)(n:Nat):Prop:=
 match x with
 | .nil=>n=0
 | .sl l=>n=l.length
 | .iE l=>n=l.length
 | .own id ver _ len=>(∃r,rows id=some r∧r.ver=ver)∧n=len
 | _=>False
def eH:PV->Option (List PV)
 | .ag l=>some l
 | .bool b=>some [.bool b]
 | .int k n=>some [.int k n]
 | .str s=>some [.str s]
 | .kg=>some [.kg]
 | .nil=>some [.nil]
 | .sl l=>some [.sl l]
 | .iE l=>some [.iE l]
 | .rd l=>some [.rd l]
 | .fn f l=>some [.fn f l]
 | .ptr a b i j=>some [.ptr a b i j]
 | .m7 t a b=>some [.m7 t a b]
 | _=>none
def th(fs:List (Nat × Nat × Bool)):List (Nat × PV)->List PV->Option (List PV)
 | [],z=>some z
 | (i,p)::ps,z =>
  match fs[i]?,eH p with
  | some (o,n,_),some l=>if l.length=n∧o+n<=z.length then th fs ps (z.take o++l++z.drop (o+n))else none
  | _,_=>none
def yun(op:UnOp)(x v:PV):Prop:=
 match op,x with
 | .not, .bool b=>v = .bool (!b)
 | .neg, .int k n=>v = .int k (k.wrap (0-n))
 | _,_=>False
def tj(s d:TI)(x v:PV):Prop:=
 match s,d,x with
 | .int _, .int k, .int _ n=>v = .int k (k.wrap n)
 | _,_,_=>False
def Jy(i:Nat)(x v:PV):Prop:=
 match x with
 | .cW l=>l[i]? = some v
 | _=>False
def Jz(k n:Nat):List (Nat × Nat × Bool):=(List.range k).map fun i=>(i*n,n,false)
def qH(t:TI)(parts:List (Nat × PV))(v:PV):Prop:=
 match t with
 | .struct fs z=>∃l,th fs parts z=some l∧v = .ag l
 | .arr _ k n z=>∃l,th (Jz k n) parts z=some l∧v = .ag l
 | _=>False
def tN(E:Env)(t:TI)(x ix v:PV):Prop:=
 match t,x,ix with
 | .arr e m n _, .ag l, .int _ k=>((E.ty e).known=true∧(E.ty e).agg=false∧n=1∧(0<=k∧k.toNat<m)∧k.toNat<l.length)∧v=l.getD k.toNat .undef
 | .str, .str s, .int _ k=>0<=k ∧ ∃b,s[k.toNat]? = some b∧v = .int .u8 b.toNat
 | _,_,_=>False
def xH(t:TI)(rows:Rows)(x v:PV):Prop:=
 match t with
 | .slice _ _ _ _=>∃n,Pc rows x n∧v = .int .i64 n
 | _=>False
def Sx(x y v:PV):Prop:=
 match x,y with
 | .int k a, .int _ b=>v = .int k (if b>a then b else a)
 | _,_=>False
def Sy(x y v:PV):Prop:=
 match x,y with
 | .int k a, .int _ b=>v = .int k (if b<a then b else a)
 | _,_=>False
def wQ(rows:Rows)(x v:PV):Prop:=
 match x with
 | .rd l=>v = .rd l
 | .ptr id ver i j=>(∃r,rows id=some r∧r.ver=ver)∧v = .ptr id ver i j
 | _=>False
def pO:PV->Bool
 | .ag _=>false
 | .cW _=>false
 | .lR .. => false
 | _=>true
theorem Pd(h:az c p v)(hc:pO p=true):aB c p v:=by
 cases p with
 | ag=>cases hc
 | cW=>cases hc
 | lR=>cases hc
 | _=>exact h
def yv(E:Env)(op:Op)(ρ:Operand->PV)(rows:Rows)(v:PV):Prop:=
 match op with
 | .move x=>v=ρ x
 | .assign x=>v=ρ x
 | .pick c a b=>∃t,ρ c = .bool t∧v=if t=true then ρ a else ρ b
 | .binOp op t x y _=>Eg E op t (ρ x) (ρ y) v
 | .unOp op _ x=>yun op (ρ x) v
 | .convert s d x=>tj (E.ty s) (E.ty d) (ρ x) v
 | .extract x i=>Jy i (ρ x) v
 | .load t p=>qG E t rows (ρ p) v
 | .field t x i=>wP E t i (ρ x) v
 | .fieldAddr t x i=>dO E t rows i (ρ x) v
 | .indexAddr t x ix=>eG E t rows (ρ x) (ρ ix) v
 | .slice t x lo hi mx=>nU E t rows (ρ x) (lo.map ρ) (hi.map ρ) (mx.map ρ) v
 | .build t parts=>qH (E.ty t) (parts.toList.map fun x=>(x.1,ρ x.2)) v
 | .index t x ix=>tN E (E.ty t) (ρ x) (ρ ix) v
 | .makeFunc (.func f) fs bF=>if E.uN f=true then((fs.toList.map fun x=>ρ x).all pO=true∧(bF.toList.map fun x=>ρ x).all pO=true)∧v = .lR f (fs.toList.map fun x=>ρ x) (bF.toList.map fun x=>ρ x)
  else(fs.toList = []∧(bF.toList.map fun x=>ρ x).all cB=true)∧v = .fn f (bF.toList.map fun x=>ρ x)
 | .call { callee:=.builtin .len,args:=⟨[x]⟩,argTypes:=⟨[t]⟩ }=>xH (E.ty t) rows (ρ x) v
 | .call { callee:=.builtin .max,args:=⟨[x,y]⟩,argTypes:=_ }=>Sx (ρ x) (ρ y) v
 | .call { callee:=.builtin .min,args:=⟨[x,y]⟩,argTypes:=_ }=>Sy (ρ x) (ρ y) v
 | .nilCheck x=>wQ rows (ρ x) v
 | .makeInterface t x=>E.ty t = .wO ∧ ∃id ver,ρ x = .ptr id ver 0 0∧v = .m7 t id ver
 | _=>False
theorem kl:∀v:Value,aB c (jh v) v:=by
 intro v;unfold jh
 split<;>first
  | (simp [aB,de];done)
  | (simp only [aB,de];exact⟨[],rfl,by simp [bO]⟩)
theorem JA(v:Value):az c (nT v) v:=by
 unfold nT
 split
 ·rename_i cs;simp only [az];refine⟨cs.toList,av,aN.bT av fun k a b ha hb=>?_⟩;simp at ha;obtain⟨u,hu,rfl⟩:=ha;have:cs.toList[k]? = some u:=au hu;rw [this]at hb;cases hb;exact kl _
 ·rename_i h;have h1:=kl (c:=c) v
  revert h1
  unfold jh;split<;>simp [az]
theorem lS(h:∀s,az c (f s) (a.tmps.getD s undef))(x:Operand):az c (aJ f x) (a.eval x):=by
 cases x with
 | tmp t=>exact h t
 | const v=>exact JA v
 | global g=>simp [aJ,az,aB]
 | func g=>simp only [aJ,az,aB,de,Act.eval];exact⟨[],rfl,by simp [bO]⟩
section
variable {E:Env} {c:Cx}
theorem cH{k:IntKind}{n:Int}:az c (.int k n) v↔v = .int k n:=by simp [az,aB,de]
theorem dm{b:Bool}:az c (.bool b) v↔v = .bool b:=by simp [az,aB,de]
theorem run_equalIn_bool(h:P.underlying t=some .bool)(d:Nat)(a b:Bool) :
  (Op.equalIn (d+1) t (.bool a) (.bool b)).run P w = .ok (a==b) w:=by simp [Op.equalIn,run_underlying h]
theorem run_equal_bool(h:P.underlying t=some .bool)(a b:Bool) :
  (Op.equal t (.bool a) (.bool b)).run P w = .ok (a==b) w:=run_equalIn_bool h 9999 a b
theorem run_eql_bool(h:P.underlying t=some .bool)(a b:Bool) :
  (binOp .eql t (.bool a) (.bool b)).run P w = .ok (.bool (a==b)) w:=by
 show(do pure (Value.bool (<-Op.equal t (.bool a) (.bool b))):Sem Value).run P w=_;simp [run_equal_bool h]
theorem run_neq_bool(h:P.underlying t=some .bool)(a b:Bool) :
  (binOp .neq t (.bool a) (.bool b)).run P w = .ok (.bool (a != b)) w:=by
 show(do pure (Value.bool (!(<-Op.equal t (.bool a) (.bool b)))):Sem Value).run P w=_;simp [run_equal_bool h];cases a<;>cases b<;>rfl
theorem yC(h:P.underlying t=some (.pointer e))(d:Nat):(Op.equalIn (d+1) t (.pointer none) (.pointer none)).run P w = .ok true w:=by simp [Op.equalIn,run_underlying h]
theorem wR{a:Addr}(h:P.underlying t=some (.pointer e))(d:Nat):(Op.equalIn (d+1) t (.pointer (some a)) (.pointer none)).run P w = .ok false w:=by simp [Op.equalIn,run_underlying h]
theorem tm(h:P.underlying t=some (.pointer e)):(Op.equal t (.pointer none) (.pointer none)).run P w = .ok true w:=by exact yC h 9999
theorem qI{a:Addr}(h:P.underlying t=some (.pointer e)):(Op.equal t (.pointer (some a)) (.pointer none)).run P w = .ok false w:=by exact wR h 9999
theorem xI{x:Option Addr}{b:Bool}(h:(Op.equal t (.pointer x) (.pointer none)).run P w = .ok b w):(binOp .eql t (.pointer x) (.pointer none)).run P w = .ok (.bool b) w:=by show(do pure (Value.bool (<-Op.equal t (.pointer x) (.pointer none))):Sem Value).run P w=_;simp [h]
theorem xJ{x:Option Addr}{b:Bool}(h:(Op.equal t (.pointer x) (.pointer none)).run P w = .ok b w):(binOp .neq t (.pointer x) (.pointer none)).run P w = .ok (.bool (!b)) w:=by show(do pure (Value.bool (!(<-Op.equal t (.pointer x) (.pointer none)))):Sem Value).run P w=_;simp [h]
theorem GB:az c .kg v↔v = .pointer none:=by simp [az,aB,de]
theorem zV:∀ {l:List PV} {vs:List Value},allI l=true->aN (aB c) l vs->vs=(jt l).map iV∧(jt l).length=l.length
 | [],[],_,_=>⟨rfl,rfl⟩
 | [],_::_,_,h=>h.elim
 | p::l,[],_,h=>h.elim
 | p::l,v::vs,ha,h=>by
  unfold allI at ha
  split at ha
  ·rename_i heq;cases heq
  ·rename_i n r heq;simp only [List.cons.injEq]at heq;obtain⟨rfl,rfl⟩:=heq;obtain⟨h1,h2⟩:=zV ha h.2;have hv:v = .int .i64 n:=(by simpa [aB,de]using h.1);exact⟨by rw [h1,hv];rfl,by simp [jt,h2]⟩
  ·cases ha
theorem My{op:BinOp}{a b:List PV}(hx:az c (.ag a) vx)(hy:az c (.ag b) vy)(h:XW E.P t a.length∧allI a=true∧allI b=true∧b.length=a.length) :
  (do eqGuard .eql t ox oy vx vy;binOp .eql t vx vy:Sem Value).run E.P c.w = .ok (.bool (decide (jt a=jt b))) c.w∧(do eqGuard .neq t ox oy vx vy;binOp .neq t vx vy:Sem Value).run E.P c.w = .ok (.bool (!decide (jt a=jt b))) c.w:=by
 obtain⟨h1,h2,h3,h4⟩:=h;obtain⟨xs,rfl,g1⟩:=hx;obtain⟨ys,rfl,g2⟩:=hy;obtain⟨rfl,q1⟩:=zV h2 g1;obtain⟨rfl,q2⟩:=zV h3 g2;have hr:=h1.run c.w (jt a) (jt b) q1 (by rw [q2,h4]);have hg:∀op,(eqGuard op t ox oy (.agg ((jt a).map iV).toArray) (.agg ((jt b).map iV).toArray)).run E.P c.w = .ok () c.w:=by intro op;unfold eqGuard;cases op<;>simp [h1.guard]
 constructor
 ·rw [Sem.run_bind,hg,Result.andThen_ok];show(do pure (Value.bool (<-Op.equal t _ _)):Sem Value).run E.P c.w=_;simp [hr]
 ·rw [Sem.run_bind,hg,Result.andThen_ok];show(do pure (Value.bool (!(<-Op.equal t _ _))):Sem Value).run E.P c.w=_;simp [hr]
theorem SA{op:BinOp}{y v:PV}(hx:az c x vx)(hy:az c y vy)(h:Eg E op t x y v) :
  ∃v',(do eqGuard op t ox oy vx vy;binOp op t vx vy:Sem Value).run E.P c.w = .ok v' c.w∧az c v v':=by
 unfold Eg at h
 split at h
 ·cases op<;>simp only at h
  case eql=>obtain⟨h1,rfl⟩:=h;exact⟨_,(My (op:=.eql) hx hy h1).1,dm.2 rfl⟩
  case neq=>obtain⟨h1,rfl⟩:=h;exact⟨_,(My (op:=.eql) hx hy h1).2,dm.2 rfl⟩
  all_goals exact False.elim h
 ·rename_i k a k2 b;rw [cH]at hx hy;subst hx hy;cases op<;>simp only at h
  case shl=>obtain⟨h1,rfl⟩:=h;exact⟨_,by simp [eqGuard,binOp,Op.shift,show ¬b<0 by omega],cH.2 rfl⟩
  case shr=>obtain⟨h1,rfl⟩:=h;exact⟨_,by simp [eqGuard,binOp,Op.shift,show ¬b<0 by omega],cH.2 rfl⟩
  case quo=>obtain⟨rfl,h1,rfl⟩:=h;exact⟨_,by simp [eqGuard,binOp,Op.intDiv,h1],cH.2 rfl⟩
  case rem=>obtain⟨rfl,h1,rfl⟩:=h;exact⟨_,by simp [eqGuard,binOp,Op.intDiv,h1],cH.2 rfl⟩
  case add=>obtain⟨rfl,rfl⟩:=h;exact⟨_,by simp [eqGuard,binOp,Op.intArith],cH.2 rfl⟩
  case sub=>obtain⟨rfl,rfl⟩:=h;exact⟨_,by simp [eqGuard,binOp,Op.intArith],cH.2 rfl⟩
  case mul=>obtain⟨rfl,rfl⟩:=h;exact⟨_,by simp [eqGuard,binOp,Op.intArith],cH.2 rfl⟩
  case or=>obtain⟨rfl,rfl⟩:=h;exact⟨_,by simp [eqGuard,binOp,Op.intBits,qF],cH.2 rfl⟩
  case and=>obtain⟨rfl,rfl⟩:=h;exact⟨_,by simp [eqGuard,binOp,Op.intBits,Sv],cH.2 rfl⟩
  case eql=>obtain⟨rfl,rfl⟩:=h;exact⟨_,by simp [eqGuard,binOp,Op.intCmp],dm.2 rfl⟩
  case neq=>obtain⟨rfl,rfl⟩:=h;exact⟨_,by simp [eqGuard,binOp,Op.intCmp],dm.2 rfl⟩
  case lss=>obtain⟨rfl,rfl⟩:=h;exact⟨_,by simp [eqGuard,binOp,Op.intCmp],dm.2 rfl⟩
  case leq=>obtain⟨rfl,rfl⟩:=h;exact⟨_,by simp [eqGuard,binOp,Op.intCmp],dm.2 rfl⟩
  case gtr=>obtain⟨rfl,rfl⟩:=h;exact⟨_,by simp [eqGuard,binOp,Op.intCmp],dm.2 rfl⟩
  case geq=>obtain⟨rfl,rfl⟩:=h;exact⟨_,by simp [eqGuard,binOp,Op.intCmp],dm.2 rfl⟩
  all_goals exact False.elim h
 ·rename_i a b;rw [dm]at hx hy;subst hx hy;have hb:E.ty t = .bool->E.P.underlying t=some .bool:=fun he=>by have:=E.ok t;rw [he]at this;exact this.1
  cases op<;>simp only at h
  case eql=>obtain⟨h1,rfl⟩:=h;exact⟨_,by simp [eqGuard,run_eql_bool (hb h1)],dm.2 rfl⟩
  case neq=>obtain⟨h1,rfl⟩:=h;exact⟨_,by simp [eqGuard,run_neq_bool (hb h1)],dm.2 rfl⟩
  all_goals exact False.elim h
 ·rw [GB]at hx hy;subst hx hy;have hb:E.ty t = .wO -> ∃e,E.P.underlying t=some (.pointer e):=fun he=>by have:=E.ok t;rw [he]at this;exact qE this.1
  cases op<;>simp only at h
  case eql=>obtain⟨h1,rfl⟩:=h;obtain⟨e,he⟩:=hb h1;exact⟨_,by simp [eqGuard,xI (tm he)],dm.2 rfl⟩
  case neq=>obtain⟨h1,rfl⟩:=h;obtain⟨e,he⟩:=hb h1;exact⟨_,by simp [eqGuard,xJ (tm he)],dm.2 rfl⟩
  all_goals exact False.elim h
 ·rw [GB]at hy;simp only [az,aB,de]at hx;obtain⟨b,o,rfl,_⟩:=hx;subst hy;have hb:E.ty t = .wO -> ∃e,E.P.underlying t=some (.pointer e):=fun he=>by have:=E.ok t;rw [he]at this;exact qE this.1
  cases op<;>simp only at h
  case eql=>obtain⟨h1,rfl⟩:=h;obtain⟨e,he⟩:=hb h1;exact⟨_,by simp [eqGuard,xI (qI he)],dm.2 rfl⟩
  case neq=>obtain⟨h1,rfl⟩:=h;obtain⟨e,he⟩:=hb h1;exact⟨_,by simp [eqGuard,xJ (qI he)],dm.2 rfl⟩
  all_goals exact False.elim h
 ·exact False.elim h
theorem iF{S:dz}{w:World}:∀ {l:List PV} {b o:Nat},dk S w b o l -> ∀ {k:Nat} {p:PV},l[k]? = some p -> ∃v,w.cell? ⟨b,o+k,none⟩=some v∧S b (o+k)∧v.oneCell'=true∧de S w p v
 | [],_,_,_,_,_,h=>by simp at h
 | q::l,b,o,hr,0,p,h=>by simp at h;subst h;exact hr.1
 | q::l,b,o,hr,k+1,p,h=>by have:=iF hr.2 (k:=k) (au h);rw [show o+1+k=o+(k+1)by omega]at this;exact this
theorem ju{S:dz}{w:World}:∀ {l:List PV} {b o:Nat},(∀k p,l[k]? = some p -> ∃v,w.cell? ⟨b,o+k,none⟩=some v∧S b (o+k)∧v.oneCell'=true∧de S w p v)->dk S w b o l
 | [],_,_,_=>trivial
 | q::l,b,o,h=>⟨by simpa using h 0 q av,ju fun k p hp=>by have:=h (k+1) p (au hp);rw [show o+(k+1)=o+1+k by omega]at this;exact this⟩
theorem tp(h:dk S w b o l)(d:Nat):dk S w b (o+d) (l.drop d):=
 ju fun k p hp=>by rw [getElem?_drop]at hp;have:=iF h hp;rw [show o+(d+k)=o+d+k by omega]at this;exact this
theorem iY(b o k:Nat):(⟨b,o,none⟩:Addr).add k=⟨b,o+k,none⟩:=by unfold Addr.add;split<;>simp_all
theorem ji{S:dz}{w:World}{n:Nat}:∀ {l:List (List PV)} {b o:Nat},fL S w b o l->(∀e∈l,e.length=n) -> ∀ {k:Nat} {e:List PV},l[k]? = some e->dk S w b (o+k*n) e
 | [],_,_,_,_,_,_,h=>by simp at h
 | q::l,b,o,hr,_,0,p,h=>by simp at h;subst h;simpa using hr.1
 | q::l,b,o,hr,hn,k+1,p,h=>by have:=ji hr.2 (fun e he=>hn e (by simp [he])) (k:=k) (au h);rw [hn q av,show o+n+k*n=o+(k+1)*n by rw [Nat.add_mul];omega]at this;exact this
theorem ot{S:dz}{w:World}{n:Nat}:∀ {l:List (List PV)} {b o:Nat},(∀e∈l,e.length=n)->(∀k e,l[k]? = some e->dk S w b (o+k*n) e)->fL S w b o l
 | [],_,_,_,_=>trivial
 | q::l,b,o,hn,h=>⟨by simpa using h 0 q av,ot (n:=n) (fun e he=>hn e (by simp [he])) fun k e hk=>by have:=h (k+1) e (au hk);rw [hn q av,show o+n+k*n=o+(k+1)*n by rw [Nat.add_mul];omega];exact this⟩
theorem zW(ht:eF P t ti)(hk:ti.known=true){vs:List Value}(hl:vs.length=ti.size)
  (h:∀k v,vs[k]? = some v->w.cell? ⟨b,o+k,none⟩=some v) :
  (Instr.loadAt t (.pointer (some ⟨b,o,none⟩))).run P w = .ok (if ti.agg=true then .agg vs.toArray else vs.getD 0 undef) w:=by
 obtain⟨d,hd⟩:=ht.und hk;obtain⟨i,z,hi,_,hs,_,_⟩:=(ht.zero hk).ok;have mr:i.size=vs.length:=by rw [hs,hl]
 simp only [Instr.loadAt,Instr.sureAddr,Sem.run_bind,Sem.run_pure,Result.andThen_ok,loadVar,mq hd,ht.ajQ hk]
 by_cases ha:ti.agg=true
 ·simp only [ha,if_true,Sem.run_bind,c7 hi,Result.andThen_ok,mr];rw [run_loadCells_list (P:=P) w ⟨b,o,none⟩ vs (fun j v hj=>by rw [iY];exact h j v hj)];simp
 ·have CQ:ti.agg=false:=au ha;simp only [CQ];have h1:vs.length=1:=by rw [hl];cases ti<;>simp_all [TI.agg,TI.size,TI.zero,TI.known]
  match vs,h1 with
  | [x],_ =>
   have:=h 0 x av;simp [load,Sem.run,show w.cell? ⟨b,o,none⟩=some x by simpa using this]
end
theorem jv{α:Type}{n:Nat}:∀ {l:List (List α)},(∀e∈l,e.length=n) -> ∀ {i:Nat} {e:List α},l[i]? = some e -> ∀ {j:Nat} {p:α},e[j]? = some p->l.flatten[i*n+j]? = some p
 | [],_,_,_,h,_,_,_=>by simp at h
 | q::l,hn,0,e,h,j,p,hp=>by simp at h;subst h;have hj:j<q.length:=(List.getElem?_eq_some_iff.1 hp).1;simp [getElem?_append_left hj,hp]
 | q::l,hn,i+1,e,h,j,p,hp=>by have:=jv (l:=l) (n:=n) (fun e he=>hn e (by simp [he])) (i:=i) (au h) hp;have hq:q.length=n:=hn q av;rw [flatten_cons,getElem?_append_right (by rw [hq,Nat.add_mul];omega),hq,show(i+1)*n+j-n=i*n+j by rw [Nat.add_mul];omega];exact this
section
variable {E:Env} {c:Cx} {w0:World} {S0:dz}
theorem uO(hI:Inv w0 S0 c)(hr:c.rows id=some r)(hβ:c.β id = .slice (some ⟨g,0,none⟩) n cap){el:List PV}(hi:r.els[i]? = some el)(hj:el[j]? = some p) :
  ∃v,c.w.cell? ⟨g,i*r.size+j,none⟩=some v∧v.oneCell'=true∧aB c p v:=by
 obtain⟨⟨xs,h1,h2,h3⟩,hlen,_,jO⟩:=hI.row id r hr;have hf:=jv hlen hi hj;obtain⟨v,hv,fh⟩:=h2.get hf
 have hn:n=r.els.length:=by
  rw [hβ]at h1
  rcases h1.2 with ⟨h,_⟩ | ⟨g',jj,cur,h,_⟩
  ·simp at h
  ·simp at h;exact h.2.1
 rw [hβ]at h1;subst hn;have bZ:i*r.size+j<r.els.length*r.size:=by have:=(List.getElem?_eq_some_iff.1 hv).1;rw [h1.1]at this;exact this
 exact⟨v,by rw [h1.cellAt _ bZ];exact hv,h3 v (mem_of_getElem? hv),fh⟩
theorem eZ(h:aB c p v):az c p v:=by
 cases p with
 | ag l=>exact az.ia (p:=.ag l) (by simpa only [aB]using h)
 | cW l=>exact az.ia (p:=.cW l) (by simpa only [aB]using h)
 | lR=>simp [aB,de]at h
 | _=>simpa only [az]using h
theorem CR{v:PV}{vp:Value}(hI:Inv w0 S0 c)(hp:az c p vp)(h:qG E t c.rows p v) :
  ∃v',(Instr.loadAt t vp).run E.P c.w = .ok v' c.w∧az c v v':=by
 obtain⟨hk,h⟩:=h
 have key:∀(b o:Nat) (l:List PV),(∀k q,l[k]? = some q -> ∃u,c.w.cell? ⟨b,o+k,none⟩=some u∧u.oneCell'=true∧aB c q u) ->
   (if (E.ty t).agg=true then(E.ty t).size<=l.length∧v = .ag (l.take (E.ty t).size)else l[0]? = some v) ->
   ∃v',(Instr.loadAt t (.pointer (some ⟨b,o,none⟩))).run E.P c.w = .ok v' c.w∧az c v v':=by
  intro b o l hl hv
  by_cases ha:(E.ty t).agg=true
  ·rw [if_pos ha]at hv;obtain⟨hn,rfl⟩:=hv;have:∃vs:List Value,vs.length=(E.ty t).size ∧ ∀k,k<(E.ty t).size -> ∀q,l[k]? = some q -> ∃u,vs[k]? = some u∧c.w.cell? ⟨b,o+k,none⟩=some u∧aB c q u:=(by refine⟨(List.range (E.ty t).size).map fun k=>(c.w.cell? ⟨b,o+k,none⟩).getD undef,av,fun k hk q hq=>?_⟩;obtain⟨u,hu,_,hr⟩:=hl k q hq;exact⟨u,by simp [hk,hu],hu,hr⟩);obtain⟨vs,Gj,xK⟩:=this;have SB:∀k u,vs[k]? = some u->c.w.cell? ⟨b,o+k,none⟩=some u:=(by intro k u hu;have wE:k<(E.ty t).size:=(by rw [<-Gj];exact(List.getElem?_eq_some_iff.1 hu).1);obtain⟨u',h1,h2,_⟩:=xK k wE l[k] (by simp [getElem?_eq_getElem (show k<l.length by omega)]);rw [hu]at h1;cases h1;exact h2);refine⟨_,zW (E.ok t) hk Gj SB,?_⟩;rw [if_pos ha];refine⟨vs,rfl,aN.bT (by simp [Gj];omega) fun k q u hq hu=>?_⟩;rw [getElem?_take]at hq
   split at hq
   ·rename_i wE;obtain⟨u',h1,_,h3⟩:=xK k wE q hq;rw [hu]at h1;cases h1;exact h3
   ·cases hq
  ·rw [if_neg ha]at hv;obtain⟨u,hu,ho,hr⟩:=hl 0 v hv;have h1:(E.ty t).size=1:=by cases hE:E.ty t<;>simp_all [TI.agg,TI.size,TI.zero,TI.known]
   refine⟨_,zW (vs:=[u]) (E.ok t) hk (by simp [h1]) (fun k x hx=>?_),?_⟩
   ·match k with
    | 0=>simp at hx;subst hx;exact hu
    | k+1=>simp at hx
   ·rw [if_neg ha];exact eZ hr
 cases p with
 | rd l =>
  simp only [az,aB,de]at hp;obtain⟨b,o,rfl,hc⟩:=hp;exact key b o l (fun k q hq=>let ⟨u,h1,_,h3,h4⟩:=iF hc hq;⟨u,h1,h3,aB.ia h4⟩) h
 | ptr id ver i j =>
  simp only at h;obtain⟨r,hr,iZ,el,mg,hh⟩:=h;simp only [az,aB]at hp;obtain⟨g,n,cap,hβ,rfl⟩:=hp.2 r hr iZ
  refine key g (i*r.size+j) (el.drop j) (fun k q hq=>?_) ?_
  ·rw [getElem?_drop]at hq;have:=uO hI hr hβ mg hq;rw [show i*r.size+(j+k)=i*r.size+j+k by omega]at this;exact this
  ·split at hh
   ·rename_i ha;rw [if_pos ha];exact⟨by rw [length_drop];omega,hh.2⟩
   ·rename_i ha;rw [if_neg ha];simpa using hh
 | _=>exact False.elim h
theorem JB{v:PV}(hx:az c x vx)(h:wP E t i x v) :
  ∃v',(Instr.field t vx i).run E.P c.w = .ok v' c.w∧az c v v':=by
 unfold wP at h
 split at h
 ·rename_i fs z hE;obtain⟨o,n,b,hf,h⟩:=h
  split at h
  ·rename_i l;have ht:=E.ok t;rw [hE]at ht;obtain⟨⟨fields,hu,ha⟩,_⟩:=ht;obtain⟨vs,rfl,xK⟩:=hx;obtain⟨fd,hfd,ec⟩:∃fd,fields[i]? = some fd∧nm E.P fd (o,n,b):=(by have hlen:=ha.length;have hi:i<fields.toList.length:=(by rw [hlen];exact(List.getElem?_eq_some_iff.1 hf).1);obtain⟨y,hy,hyy⟩:=ha.get (k:=i) (a:=fields.toList[i]) (by simp [getElem?_eq_getElem hi]);rw [hf]at hy;cases hy;exact⟨_,av,hyy⟩);obtain⟨inf,R7,GC⟩:=ec.size;obtain⟨d,hd⟩:=ec.und;have SC:fd.offset=o:=ec.off;simp only [Instr.field,Sem.run_bind,run_underlying hu,Result.andThen_ok,hfd,asAgg,Sem.run_pure,part,mq hd,ec.agg]
   by_cases hb:b=true
   ·subst hb;simp only [if_true]at h;subst h;simp only [if_true,Sem.run_bind,c7 R7,Result.andThen_ok,Sem.run_pure,SC,GC];refine⟨_,rfl,(vs.drop o).take n,?_,(xK.drop o).take n⟩;congr 1;apply Array.ext';simp [extract_eq_take_drop]
   ·have gC:b=false:=au hb;subst gC;simp only [Bool.false_eq_true,if_false]at h |-;obtain⟨u,GD,hr⟩:=xK.get h;refine⟨u,?_,eZ hr⟩;rw [SC];simp [GD]
  ·exact False.elim h
 ·exact False.elim h
theorem Eh{b:Bool}(hE:E.ty t = .struct fs z)(hf:fs[i]? = some (o,n,b)) :
  ∃(fields:Array Field) (fd:Field),E.P.underlying t=some (.struct fields)∧fields[i]? = some fd∧nm E.P fd (o,n,b):=by
 have ht:=E.ok t;rw [hE]at ht;obtain⟨⟨fields,hu,ha⟩,_⟩:=ht;have hlen:=ha.length;have hi:i<fields.toList.length:=by rw [hlen];exact(List.getElem?_eq_some_iff.1 hf).1
 obtain⟨y,hy,hyy⟩:=ha.get (k:=i) (a:=fields.toList[i]) (by simp [getElem?_eq_getElem hi]);rw [hf]at hy;cases hy;exact⟨fields,_,hu,av,hyy⟩
theorem xL{b:Bool}(hE:E.ty t = .struct fs z)(hf:fs[i]? = some (o,n,b))(g off:Nat) :
  (Instr.fieldAt t (.pointer (some ⟨g,off,none⟩)) i).run E.P c.w = .ok (.pointer (some ⟨g,off+o,none⟩)) c.w:=by
 obtain⟨fields,fd,hu,hfd,ec⟩:=Eh hE hf;obtain⟨inf,R7,GC⟩:=ec.size;have jO:0<n:=ec.pos;have aqt:inf.size=n:=GC;have SC:fd.offset=o:=ec.off;simp only [Instr.fieldAt,Sem.run_bind,run_underlying hu,Result.andThen_ok,hfd,Instr.sureAddr,Sem.run_pure,fieldPlace,c7 R7,aqt];rw [if_neg aa];simp [iY,SC]
theorem zY{v:PV}(hx:az c x vx)(h:dO E t c.rows i x v) :
  ∃v',(Instr.fieldAt t vx i).run E.P c.w = .ok v' c.w∧az c v v':=by
 unfold dO at h
 split at h
 ·rename_i fs z hE;obtain⟨o,n,b,hf,h⟩:=h
  split at h
  ·obtain⟨_,rfl⟩:=h;simp only [az,aB,de]at hx;obtain⟨g,off,rfl,hc⟩:=hx;exact⟨_,xL hE hf g off,by simp only [az,aB,de];exact⟨g,off+o,rfl,tp hc o⟩⟩
  ·obtain⟨⟨r,hr,iZ⟩,rfl⟩:=h;simp only [az,aB]at hx |-;obtain⟨g,m,cap,hβ,rfl⟩:=hx.2 r hr iZ;refine⟨_,xL hE hf g _,hx.1,fun r' gI _=>?_⟩;rw [hr]at gI;cases gI;exact⟨g,m,cap,hβ,by rw [Nat.add_assoc]⟩
  ·exact False.elim h
 ·exact False.elim h
theorem fM(hE:E.ty t = .slice e n b z) :
  E.P.underlying t=some (.slice e)∧0<n∧z.length=n ∧ ∃i zv,E.P.info? e=some i∧i.zero=some zv∧i.size=n∧i.bytes=b∧zv.cells.toList.map jh=z∧zv.cells.all (·.oneCell')=true:=by
 have ht:=E.ok t;rw [hE]at ht;obtain⟨h1,_,h3,i,h4,h5⟩:=ht;obtain⟨i',v,g1,g2,g3,g4,g5⟩:=h3.ok;rw [h4]at g1;cases g1;exact⟨h1,h3.pos,h3.len,i,v,h4,g2,g3,h5,g4,g5⟩
theorem np(hE:E.ty t = .slice e n b z)(h0:0<=k)(h1:k.toNat<len) :
  (Instr.indexAt t (.slice (some ⟨g,o,none⟩) len cap) (.int kk k)).run E.P c.w = .ok (.pointer (some ⟨g,o+k.toNat*n,none⟩)) c.w:=by
 obtain⟨hu,hn,_,i,zv,hi,_,hs,_,_,_⟩:=fM hE;have h2:0<=k∧k<(len:Int):=⟨h0,aa⟩
 simp [Instr.indexAt,run_underlying hu,asIntOf,h2,c7 hi,hs,iY]
theorem CT(hE:E.ty t = .arr e m n z)(h0:0<=k)(h1:k.toNat<m) :
  (Instr.indexAt t (.pointer (some ⟨g,o,none⟩)) (.int kk k)).run E.P c.w = .ok (.pointer (some ⟨g,o+k.toNat*n,none⟩)) c.w:=by
 have ht:=E.ok t;rw [hE]at ht;obtain⟨hu,_,i,hi,hs⟩:=ht;have h2:0<=k∧k<(m:Int):=⟨h0,aa⟩
 simp [Instr.indexAt,run_underlying hu,asIntOf,h2,c7 hi,hs,iY,Instr.sureAddr]
theorem qJ(hI:Inv w0 S0 c)(hr:c.rows id=some r)(km:0<r.els.length):∃g cap,c.β id = .slice (some ⟨g,0,none⟩) r.els.length cap:=by
 obtain⟨⟨xs,h1,_,_⟩,_⟩:=hI.row id r hr
 rcases h1.2 with ⟨_,h⟩ | ⟨g',jj,cur,h,_⟩
 ·omega
 ·exact⟨g',jj,h⟩
theorem zZ{ix v:PV}{vi:Value}(hI:Inv w0 S0 c)(hx:az c x vx)(hi:az c ix vi)(h:eG E t c.rows x ix v) :
  ∃v',(Instr.indexAt t vx vi).run E.P c.w = .ok v' c.w∧az c v v':=by
 unfold eG at h
 split at h
 ·rename_i e n b z hE
  split at h
  ·rename_i kk k;rw [cH]at hi;subst hi;obtain⟨h0,h⟩:=h
   split at h
   ·obtain⟨el,mg,hn,rfl⟩:=h;simp only [az,aB,de]at hx |-;obtain⟨a,cap,rfl,_,_,hh⟩:=hx;have bZ:=(List.getElem?_eq_some_iff.1 mg).1
    rcases hh with rfl | ⟨g,o,rfl,hh⟩
    ·simp at mg
    ·exact⟨_,np hE h0 bZ,g,_,rfl,ji hh hn mg⟩
   ·obtain⟨el,mg,hn,rfl⟩:=h;simp only [az,aB,de]at hx |-;obtain⟨a,rfl,_,hh⟩:=hx;have bZ:=(List.getElem?_eq_some_iff.1 mg).1
    rcases hh with rfl | ⟨g,o,rfl,hh⟩
    ·simp at mg
    ·exact⟨_,np hE h0 bZ,g,_,rfl,ji hh hn mg⟩
   ·rename_i id ver off len;obtain⟨r,hr,iZ,mr,bZ,rfl⟩:=h;simp only [az,aB]at hx |-;obtain⟨SD,hx⟩:=hx;obtain⟨hle,hx⟩:=hx r hr iZ
    rcases hx with ⟨rfl,a,m,cap,hβ,rfl⟩ | ⟨jO,g,m,cap,a,hβ,hoc,rfl,ha⟩
    ·obtain⟨g,jj,qK⟩:=qJ hI hr aa;rw [hβ]at qK;simp only [Value.slice.injEq]at qK;obtain⟨rfl,rfl,rfl⟩:=qK;refine⟨_,np hE h0 bZ,⟨SD,rfl⟩,fun r' gI _=>?_⟩;rw [hr]at gI;cases gI;exact⟨g,_,_,hβ,by rw [<-mr];simp⟩
    ·rcases ha with ha | rfl
     ·omega
     ·refine⟨_,np hE h0 bZ,⟨SD,rfl⟩,fun r' gI _=>?_⟩;rw [hr]at gI;cases gI;exact⟨g,m,cap,hβ,by rw [<-mr,Nat.add_mul,Nat.add_zero]⟩
   ·exact False.elim h
  ·exact False.elim h
 ·rename_i e m n z hE
  split at h
  ·rename_i kk k;rw [cH]at hi;subst hi;obtain⟨⟨h0,h1⟩,h⟩:=h
   split at h
   ·obtain⟨_,rfl⟩:=h;simp only [az,aB,de]at hx;obtain⟨g,off,rfl,hc⟩:=hx;exact⟨_,CT hE h0 h1,by simp only [az,aB,de];exact⟨g,off+k.toNat*n,rfl,tp hc _⟩⟩
   ·obtain⟨⟨r,hr,iZ⟩,rfl⟩:=h;simp only [az,aB]at hx |-;obtain⟨g,m',cap,hβ,rfl⟩:=hx.2 r hr iZ;refine⟨_,CT hE h0 h1,hx.1,fun r' gI _=>?_⟩;rw [hr]at gI;cases gI;exact⟨g,m',cap,hβ,by rw [Nat.add_assoc]⟩
   ·exact False.elim h
  ·exact False.elim h
 ·exact False.elim h
theorem Ei{y:Nat}{code:BoundsCode}(h0:0<=k)(h1:k<=y) :
  (Instr.sliceBound (.int kk k) y code).run P w = .ok k.toNat w:=by
 have h2:0<=k∧k<=(y:Int):=⟨h0,h1⟩
 simp [Instr.sliceBound,asIntOf,h2]
theorem JC{a:Nat}
  (pP:∀p,lo=some p -> ∃u,Xs=some u∧az c p u) (ajS:lo=none->Xs=none)
  (CU:∀p,hi=some p -> ∃u,Xt=some u∧az c p u) (aqv:hi=none->Xt=none)
  (Mz:∀p,mx=some p -> ∃u,Xv=some u∧az c p u) (aqw:mx=none->Xv=none)
  (h1:uH 0 lo a) (h2:uH len hi b) (h3:uH cap mx m) (hm:mx.isSome=true->hi.isSome=true) (fm:a<=b) (hbm:b<=m) (hmc:m<=cap) :
  (Instr.sliceBounds true len cap Xs Xt Xv).run P w = .ok (a,b,m) w:=by
 have key:∀ {d y n:Nat} {o:Option PV} {vo:Option Value} {code:BoundsCode},(∀p,o=some p -> ∃u,vo=some u∧az c p u)->(o=none->vo=none)->uH d o n->n<=y ->
   (o=none∧vo=none∧n=d) ∨ ∃kk k,vo=some (.int kk k)∧k.toNat=n∧o.isSome=true ∧ ∀code,(Instr.sliceBound (.int kk k) y code).run P w = .ok n w:=by
  intro d y n o vo code ho tq hy hn;cases o with
  | none=>exact .inl ⟨rfl,tq rfl,hy⟩
  | some p =>
   cases p with
   | int kk k =>
    obtain⟨u,hu,hr⟩:=ho _ rfl;rw [cH]at hr;subst hr;obtain⟨g1,g2⟩:=hy;exact .inr ⟨kk,k,hu,g2.symm,rfl,fun code=>by rw [Ei g1 aa,g2]⟩
   | _=>exact False.elim hy
 rcases key (y:=b) (code:=.index) pP ajS h1 fm with ⟨rfl,rfl,rfl⟩ | ⟨_,_,rfl,_,_,g1⟩ <;>
 rcases key (y:=m) (code:=.index) CU aqv h2 hbm with ⟨rfl,rfl,rfl⟩ | ⟨_,_,rfl,_,_,g2⟩ <;>
 rcases key (y:=cap) (code:=.index) Mz aqw h3 hmc with ⟨rfl,rfl,rfl⟩ | ⟨_,_,rfl,_,SE,g3⟩ <;>
 first
  | (simp only [Instr.sliceBounds,Sem.run_bind,Sem.run_pure,Result.andThen_ok, *];done)
  | (have:=hm SE;simp at this)
end
section
variable {E:Env} {c:Cx} {w0:World} {S0:dz}
def JD(c:Cx)(p:Option PV)(v:Option Value):Prop:=(∀q,p=some q -> ∃u,v=some u∧az c q u)∧(p=none->v=none)
theorem kU{bb:Nat}(hE:E.ty t = .slice e n bb z){A:Option Addr}{a:Nat}
  (pP:JD c lo Xs) (CU:JD c hi Xt) (Mz:JD c mx Xv)
  (h1:uH 0 lo a) (h2:uH len hi b) (h3:uH cap mx m) (hm:mx.isSome=true->hi.isSome=true) (fm:a<=b) (hbm:b<=m) (hmc:m<=cap) :
  (Instr.sliceAt t (.slice A len cap) Xs Xt Xv).run E.P c.w = .ok (.slice (if m=a then A else A.map (·.add (a*n))) (b-a) (m-a)) c.w:=by
 obtain⟨hu,hn,_,i,zv,iK,_,hs,_,_,_⟩:=fM hE;have hb:=JC (P:=E.P) (w:=c.w) pP.1 pP.2 CU.1 CU.2 Mz.1 Mz.2 h1 h2 h3 hm fm hbm hmc;simp [Instr.sliceAt,Instr.slice,run_underlying hu,hb,c7 iK,hs]
theorem JE{l:List (List PV)}(h:fL S w g o l)(hn:∀e∈l,e.length=n)(a b:Nat):fL S w g (o+a*n) ((l.take b).drop a):=by
 refine ot (n:=n) (fun e he=>hn e (mem_of_mem_take (mem_of_mem_drop he))) fun k e hk=>?_;rw [getElem?_drop,getElem?_take]at hk
 split at hk
 ·have:=ji h hn hk;rw [show o+a*n+k*n=o+(a+k)*n by rw [Nat.add_mul];omega];exact this
 ·cases hk
theorem JF{v:PV}(hI:Inv w0 S0 c)(hx:az c x vx)(pP:JD c lo Xs)(CU:JD c hi Xt)(Mz:JD c mx Xv)
  (h:nU E t c.rows x lo hi mx v):∃v',(Instr.sliceAt t vx Xs Xt Xv).run E.P c.w = .ok v' c.w∧az c v v':=by
 unfold nU at h
 split at h
 ·rename_i e n bb z hE
  have sub:∀(l:List (List PV)) (A:Option Addr) (cap a b:Nat),l.length<=cap->cap<=maxLen->(l = [] ∨ ∃g o,A=some ⟨g,o,none⟩∧fL c.S c.w g o l) ->
    (∀e∈l,e.length=n)->uH 0 lo a->uH l.length hi b->a<=b->b<=l.length ->
    Jx l a b hi mx v ->
    ∃v',(Instr.sliceAt t (.slice A l.length cap) Xs Xt Xv).run E.P c.w = .ok v' c.w∧az c v v':=by
   intro l A cap a b hlc Pe fh hn h1 h2 fm R8 h;have hlen:((l.take b).drop a).length=b-a:=by simp;omega
   have addr:∀m,b<=m->(l.take b).drop a = [] ∨ ∃g o,(if m=a then A else A.map (·.add (a*n)))=some ⟨g,o,none⟩∧fL c.S c.w g o ((l.take b).drop a):=by
    intro m hm
    rcases Nat.lt_or_ge a b with bZ | Pf
    ·right
     rcases fh with rfl | ⟨g,o,rfl,hr⟩
     ·simp at R8;omega
     ·rw [if_neg aa];exact⟨g,o+a*n,by simp [iY],JE hr hn a b⟩
    ·left;exact eq_nil_of_length_eq_zero (by rw [hlen];omega)
   cases mx with
   | none =>
    simp only [Jx]at h;subst h;refine⟨_,kU hE pP CU Mz h1 h2 (m:=cap) (by simp [uH]) av fm aa (Nat.le_refl _),?_⟩;simp only [az,aB,de];exact⟨_,cap-a,by rw [hlen],by rw [hlen];omega,aa,addr cap aa⟩
   | some m =>
    simp only [Jx]at h;obtain⟨c',uP,rfl,SE,rfl⟩:=h;have h3:uH cap (some m) b:=(by cases m<;>simp_all [uH]);refine⟨_,kU hE pP CU Mz h1 h2 h3 (fun _=>SE) fm (Nat.le_refl _) aa,?_⟩;simp only [az,aB,de];exact⟨_,by rw [hlen],by rw [hlen];omega,addr b (Nat.le_refl _)⟩
  split at h
  ·obtain⟨a,b,h1,h2,rfl,rfl,SG,rfl⟩:=h;simp only [az,aB,de]at hx;subst hx;have adW:mx=none:=au SG;subst adW;exact⟨_,kU hE pP CU Mz h1 h2 (m:=0) (by simp [uH]) av (Nat.le_refl _) (Nat.le_refl _) (Nat.le_refl _),by simp [az,aB,de]⟩
  ·obtain⟨a,b,h1,h2,fm,R8,hn,h⟩:=h;simp only [az,aB,de]at hx;obtain⟨A,cap,rfl,g1,g2,g3⟩:=hx;exact sub _ A cap a b g1 g2 g3 hn h1 h2 fm R8 h
  ·obtain⟨a,b,h1,h2,fm,R8,hn,h⟩:=h;simp only [az,aB,de]at hx;obtain⟨A,rfl,g2,g3⟩:=hx;exact sub _ A _ a b (Nat.le_refl _) g2 g3 hn h1 h2 fm R8 h
  ·rename_i id ver off len;obtain⟨r,hr,iZ,mr,a,b,h1,h2,fm,R8,SG,rfl⟩:=h;have adW:mx=none:=au SG;subst adW;simp only [az,aB]at hx |-;obtain⟨SD,hx⟩:=hx;obtain⟨hle,hx⟩:=hx r hr iZ;obtain⟨⟨xs,i0,_,_⟩,_⟩:=hI.row id r hr
   have abo:∀A m cap,c.β id = .slice A m cap->r.els.length<=cap:=by
    intro A m cap hβ;rw [hβ]at i0
    rcases i0.2 with ⟨h',hz⟩ | ⟨g,jj,cur,h',_,_,JG,_⟩
    ·simp at h';omega
    ·simp at h';omega
   rcases hx with ⟨rfl,A,m,cap,hβ,rfl⟩ | ⟨jO,g,m,cap,A,hβ,hoc,rfl,ha⟩
   ·have XX:=abo _ _ _ hβ;refine⟨_,kU hE pP CU Mz h1 h2 (m:=cap) (by simp [uH]) av fm aa (Nat.le_refl _),SD,fun r' gI _=>?_⟩;rw [hr]at gI;cases gI;refine⟨aa,?_⟩
    rcases Nat.eq_zero_or_pos a with rfl | SH
    ·left;refine⟨rfl,A,m,cap,hβ,?_⟩;congr 1;cases A<;>simp [Addr.add]
    ·right;obtain⟨g,jj,qK⟩:=qJ hI hr aa;rw [hβ]at qK;simp only [Value.slice.injEq]at qK;obtain⟨rfl,rfl,rfl⟩:=qK
     refine⟨aa,g,_,_,if cap=a then⟨g,0,none⟩else⟨g,0+a*n,none⟩,hβ,aa,?_,?_⟩
     ·simp only [Nat.zero_add];congr 1;split<;>simp [iY]
     ·rcases Nat.lt_or_ge a b with bZ | Pf
      ·right;rw [if_neg aa];simp [mr]
      ·left;omega
   ·have XX:=abo _ _ _ hβ;refine⟨_,kU hE pP CU Mz h1 h2 (m:=cap-off) (by simp [uH]) av fm aa (Nat.le_refl _),SD,fun r' gI _=>?_⟩;rw [hr]at gI;cases gI
    refine⟨aa, .inr ⟨aa,g,m,cap,if cap-off=a then A else A.add (a*n),hβ,aa,?_,?_⟩⟩
    ·rw [show cap-(off+a)=cap-off-a by omega];congr 1;split<;>simp
    ·rcases Nat.lt_or_ge a b with bZ | Pf
     ·right
      rcases ha with ha | rfl
      ·omega
      ·rw [if_neg aa];simp [iY,mr,Nat.add_mul]
     ·left;omega
  ·exact False.elim h
 ·exact False.elim h
end
theorem Ej(l:List α)(i:Nat)(v:α)(rest:List α)(h:i+rest.length+1<=l.length) :
  ((l.set i v).take (i+1)++rest++(l.set i v).drop (i+1+rest.length))=l.take i++(v::rest)++l.drop (i+(rest.length+1)):=by
 have h1:(l.set i v).take (i+1)=l.take i ++ [v]:=by rw [take_succ_eq_append_getElem (by simp;omega)];simp [take_set,set_eq_of_length_le (show (l.take i).length<=i by simp;omega)]
 have h2:(l.set i v).drop (i+1+rest.length)=l.drop (i+1+rest.length):=by rw [drop_set,if_pos aa]
 rw [h1,h2,show i+(rest.length+1)=i+1+rest.length by omega];simp
theorem oS(off:Nat):∀(L:List Value) (k:Nat) (arr:Array Value),off+k+L.length<=arr.size ->
  ((L.zipIdx k).foldl (fun cs (x:Value × Nat)=>cs.setIfInBounds (off+x.2) x.1) arr).toList=arr.toList.take (off+k)++L++arr.toList.drop (off+k+L.length)
 | [],k,arr,_=>by simp
 | v::L,k,arr,h=>by simp only [zipIdx_cons,foldl_cons];rw [oS off L (k+1) (arr.setIfInBounds (off+k) v) (by simp at h |-;omega)];have:=Ej arr.toList (off+k) v L (by simp at h |-;omega);rw [Array.toList_setIfInBounds,show off+(k+1)=off+k+1 by omega];simpa [length_cons]using this
section
variable {E:Env} {c:Cx} {w0:World} {S0:dz}
theorem Ek(h:az c p v)(hp:∀l,p ≠ .ag l)(hu:∀l,p ≠ .cW l)(hn:p ≠ .undef)(ho:∀a b d e,p ≠ .own a b d e)(hk:∀a b d,p ≠ .lR a b d):v.cells = #[v]:=by
 cases p with
 | ag l=>exact absurd rfl (hp l)
 | cW l=>exact absurd rfl (hu l)
 | undef=>exact absurd rfl hn
 | own a b d e=>exact absurd rfl (ho a b d e)
 | lR a b d=>exact absurd rfl (hk a b d)
 | ptr a b d e =>
  have h1:v.oneCell'=true:=h.1.2;cases v<;>simp_all [Value.cells,Value.oneCell']
 | m7 a b d =>
  have h1:v.oneCell'=true:=h.1.2;cases v<;>simp_all [Value.cells,Value.oneCell']
 | bool b=>rw [dm]at h;subst h;rfl
 | int k n=>rw [cH]at h;subst h;rfl
 | str s=>simp only [az,aB,de]at h;subst h;rfl
 | kg=>simp only [az,aB,de]at h;subst h;rfl
 | nil=>simp only [az,aB,de]at h;subst h;rfl
 | sl l=>simp only [az,aB,de]at h;obtain⟨a,cap,rfl,_⟩:=h;rfl
 | iE l=>simp only [az,aB,de]at h;obtain⟨a,rfl,_⟩:=h;rfl
 | rd l=>simp only [az,aB,de]at h;obtain⟨a,o,rfl,_⟩:=h;rfl
 | fn g l=>simp only [az,aB,de]at h;obtain⟨a,rfl,_⟩:=h;rfl
theorem JH(h:az c p v)(hc:eH p=some l):aN (aB c) l v.cells.toList:=by
 have one:∀q:PV,(az c q v->aB c q v)->v.cells = #[v]->p=q->l = [q]->aN (aB c) l v.cells.toList:=by rintro q hq hv rfl rfl;rw [hv];exact⟨hq h,trivial⟩
 cases p with
 | ag l' =>
  simp only [eH,Option.some.injEq]at hc;subst hc;obtain⟨vs,rfl,xK⟩:=h;simpa [Value.cells]using xK
 | cW _=>simp [eH]at hc
 | undef=>simp [eH]at hc
 | own _ _ _ _=>simp [eH]at hc
 | lR _ _ _=>simp [eH]at hc
 | _ =>
  simp only [eH,Option.some.injEq]at hc;refine one _ (fun hh=>by simpa only [az]using hh) (Ek h ?_ ?_ ?_ ?_ ?_) rfl hc.symm<;>simp
theorem z5{fs:List (Nat × Nat × Bool)}:∀ {ps:List (Nat × PV)} {vs:List (Nat × Value)} {z l:List PV} {cells:Array Value},
  aN (fun (x:Nat × PV) (y:Nat × Value)=>x.1=y.1∧az c x.2 y.2) ps vs->aN (aB c) z cells.toList->th fs ps z=some l ->
  ∃cU,Instr.fill (fun i=>(fs.toArray.map fun x=>(x.1,x.2.1))[i]?) cells vs=some cU∧aN (aB c) l cU.toList
 | [],[],z,l,cells,_,hz,h=>by simp only [th,Option.some.injEq]at h;subst h;exact⟨cells,by simp [Instr.fill],hz⟩
 | [],_::_,_,_,_,h,_,_=>h.elim
 | _::_,[],_,_,_,h,_,_=>h.elim
 | (i,p)::ps,(j,v)::vs,z,l,cells,h,hz,hf=>by
  obtain⟨⟨qy,hr⟩,SI⟩:=h;simp only at qy hr;subst qy;simp only [th]at hf
  split at hf
  ·rename_i o n b l' Xw El
   split at hf
   ·rename_i uQ;obtain⟨hl,hon⟩:=uQ;have hc:=JH hr El;have mr:v.cells.size=n:=(by rw [<-hl,hc.length];simp);have z6:z.length=cells.size:=(by rw [hz.length];simp);have CV:=oS o v.cells.toList 0 cells (by simp;omega);have hz':aN (aB c) (z.take o++l'++z.drop (o+n)) ((v.cells.toList.zipIdx 0).foldl (fun cs (x:Value × Nat)=>cs.setIfInBounds (o+x.2) x.1) cells).toList:=(by rw [CV];have:v.cells.toList.length=n:=(by simp [mr]);rw [this];simpa using((hz.take o).append hc).append (hz.drop (o+n)));obtain⟨cU,h1,h2⟩:=z5 (fs:=fs) SI hz' hf;refine⟨cU,?_,h2⟩;have MA:(fs.toArray.map fun x=>(x.1,x.2.1))[i]? = some (o,n):=(by simp [Xw]);simp only [Instr.fill,MA];rw [if_neg (by simp [mr];omega)];rw [<-h1];congr 1;have Xx:v.cells.toList.zipIdx=v.cells.zipIdx.toList:=av;rw [Xx,Array.foldl_toList]
   ·cases hf
  ·cases hf
end
section
variable {E:Env} {c:Cx} {w0:World} {S0:dz}
theorem run_places{fields:Array Field}(h:aN (nm E.P) fields.toList fs)(w:World) :
  (fields.mapM (fun f=>do pure (f.offset,<-Go.sizeOf f.type)):Sem (Array (Nat × Nat))).run E.P w = .ok (fs.toArray.map fun x=>(x.1,x.2.1)) w:=by
 have key:∀(l:List Field) (fs:List (Nat × Nat × Bool)),aN (nm E.P) l fs ->
   (l.mapM (fun f=>Functor.map (Prod.mk f.offset) (Go.sizeOf f.type)):Sem (List (Nat × Nat))).run E.P w = .ok (fs.map fun x=>(x.1,x.2.1)) w:=by
  intro l
  induction l with
  | nil =>
   intro fs h;cases fs with
   | nil=>simp
   | cons _ _=>exact h.elim
  | cons f l ih =>
   intro fs h;cases fs with
   | nil=>exact h.elim
   | cons x fs =>
    obtain⟨i,h1,h2⟩:=h.1.size;simp [mapM_cons,c7 h1,h2,ih fs h.2,h.1.off]
 have h2:=key fields.toList fs h;rw [Array.mapM_eq_mapM_toList];simp [h2]
theorem CW{p p':Nat->Option (Nat × Nat)}(h:∀i x,p i=some x->p' i=some x):∀(l:List (Nat × Value)) (cells r:Array Value),Instr.fill p cells l=some r->Instr.fill p' cells l=some r
 | [],cells,r,h1=>h1
 | (i,v)::l,cells,r,h1=>by
  unfold Instr.fill at h1 |-;cases hp:p i with
  | none=>rw [hp]at h1;cases h1
  | some x =>
   obtain⟨off,size⟩:=x;rw [hp]at h1;rw [h i _ hp];simp only at h1 |-
   split at h1
   ·cases h1
   ·rename_i hc;rw [if_neg hc];exact CW h l _ r h1
theorem JI{parts:Array (Nat × Operand)}{ρ:Operand->PV}{vρ:Operand->Value}{v:PV}(hρ:∀x,az c (ρ x) (vρ x))
  (h:qH (E.ty t) (parts.toList.map fun x=>(x.1,ρ x.2)) v) :
  ∃v',(Instr.build t (parts.map fun(i,x)=>(i,vρ x))).run E.P c.w = .ok v' c.w∧az c v v':=by
 unfold qH at h
 split at h
 ·rename_i fs z hE;obtain⟨l,hl,rfl⟩:=h;have ht:=E.ok t;rw [hE]at ht;obtain⟨⟨fields,hu,ha⟩,hz⟩:=ht;obtain⟨i,zv,hi,hzv,_,Em,_⟩:=hz.ok;have lT:aN (aB c) z zv.cells.toList:=by rw [<-Em];refine aN.bT av fun k a b CQ hb=>?_;simp at CQ;obtain⟨u,GD,rfl⟩:=CQ;have:zv.cells.toList[k]? = some u:=au GD;rw [this]at hb;cases hb;exact kl _
  obtain⟨cU,h1,h2⟩:=z5 (c:=c) (fs:=fs) (vs:=(parts.map fun(i,x)=>(i,vρ x)).toList) (cells:=zv.cells) (by refine aN.bT av fun k a b CQ hb=>?_;simp at CQ hb;obtain⟨i',x,hx,rfl⟩:=CQ;obtain⟨j',y,hy,rfl⟩:=hb;rw [hx]at hy;cases hy;exact⟨rfl,hρ _⟩) lT hl;refine⟨.agg cU,?_,cU.toList,av,h2⟩;have JK:Instr.fill (fun x=>(fs.toArray.map fun x=>(x.1,x.2.1))[x]?) zv.cells (parts.map fun x=>(x.1,vρ x.2)).toList=some cU:=h1;simp only [Instr.build,zeroValue,typeInfo,program,Sem.run_bind,Sem.run,hi,hzv,Sem.run_pure,Result.andThen_ok,run_underlying hu,run_places ha,JK]
 ·rename_i e k n z hE;obtain⟨l,hl,rfl⟩:=h;have ht:=E.ok t;rw [hE]at ht;obtain⟨hu,hz,j,hj,hjs⟩:=ht;obtain⟨i,zv,hi,hzv,_,Em,_⟩:=hz.ok;have lT:aN (aB c) z zv.cells.toList:=by rw [<-Em];refine aN.bT av fun k a b CQ hb=>?_;simp at CQ;obtain⟨u,GD,rfl⟩:=CQ;have:zv.cells.toList[k]? = some u:=au GD;rw [this]at hb;cases hb;exact kl _
  obtain⟨cU,h1,h2⟩:=z5 (c:=c) (fs:=Jz k n) (vs:=(parts.map fun(i,x)=>(i,vρ x)).toList) (cells:=zv.cells) (by refine aN.bT av fun k a b CQ hb=>?_;simp at CQ hb;obtain⟨i',x,hx,rfl⟩:=CQ;obtain⟨j',y,hy,rfl⟩:=hb;rw [hx]at hy;cases hy;exact⟨rfl,hρ _⟩) lT hl;refine⟨.agg cU,?_,cU.toList,av,h2⟩
  have JK:Instr.fill (fun i=>some (i*n,n)) zv.cells (parts.map fun x=>(x.1,vρ x.2)).toList=some cU:=by
   refine CW (fun i x hx=>?_) _ _ _ h1;simp only [Jz,getElem?_toArray,map_toArray,map_map,getElem?_map]at hx;rw [Option.map_eq_some_iff]at hx;obtain⟨a,ha,rfl⟩:=hx
   rw [getElem?_range]at ha
   ·cases ha;rfl
   ·have:=(List.getElem?_eq_some_iff.1 ha).1;simpa using this
  simp only [Instr.build,zeroValue,typeInfo,program,Sem.run_bind,Sem.run,hi,hzv,Sem.run_pure,Result.andThen_ok,run_underlying hu,c7 hj,hjs,JK]
 ·exact False.elim h
theorem SJ{o:Oper}(hI:Inv w0 S0 c)(hf:∀s,az c (f s) (a.tmps.getD s undef)){v:PV}(h:yv E o.op (aJ f) c.rows v) :
  ∃v',(execOp a.eval o).run E.P c.w = .ok (.value v') c.w∧az c v v':=by
 have hρ:=lS hf;have fin:∀ {s:Sem Value},(∃v',s.run E.P c.w = .ok v' c.w∧az c v v') -> ∃v',(do pure (Next.value (<-s)):Sem Next).run E.P c.w = .ok (.value v') c.w∧az c v v':=by rintro s ⟨v',h1,h2⟩;exact⟨v',by simp [h1],h2⟩
 obtain⟨dst,op,type,pos,after,guard⟩:=o;simp only at h;unfold yv at h
 split at h
 ·subst h;exact⟨_,by simp [execOp],hρ _⟩
 ·subst h;exact⟨_,by simp [execOp],hρ _⟩
 ·rename_i x a' b';obtain⟨t,ht,rfl⟩:=h;have:=hρ x;rw [ht,dm]at this;refine⟨if t=true then a.eval a' else a.eval b',by simp [execOp,this,asBool],?_⟩
  split
  ·exact hρ _
  ·exact hρ _
 ·exact fin (SA (hρ _) (hρ _) h)
 ·rename_i op _ x;unfold yun at h
  split at h
  ·rename_i b heq;subst h;have:=hρ x;rw [heq,dm]at this;exact⟨.bool (!b),by simp [execOp,this,Op.unary],dm.2 rfl⟩
  ·rename_i k n heq;subst h;have:=hρ x;rw [heq,cH]at this;exact⟨.int k (k.wrap (0-n)),by simp [execOp,this,Op.unary,Op.intArith],cH.2 rfl⟩
  ·exact False.elim h
 ·rename_i s d x;unfold tj at h
  split at h
  ·rename_i ks kd k n h1 h2 h3;subst h;have:=hρ x;rw [h3,cH]at this;have hs:=E.ok s;have hd:=E.ok d;rw [h1]at hs;rw [h2]at hd;exact⟨.int kd (kd.wrap n),by simp [execOp,this,convert,run_underlying hs.1,run_underlying hd.1,Conv.intToInt],cH.2 rfl⟩
  ·exact False.elim h
 ·rename_i x i;unfold Jy at h
  split at h
  ·rename_i l heq;have:=hρ x;rw [heq]at this;obtain⟨vs,xK,hl⟩:=this;obtain⟨u,hu,hr⟩:=hl.get h;exact⟨u,by simp [execOp,xK,Instr.extract,hu],eZ hr⟩
  ·exact False.elim h
 ·exact fin (CR hI (hρ _) h)
 ·exact fin (JB (hρ _) h)
 ·exact fin (zY (hρ _) h)
 ·exact fin (zZ hI (hρ _) (hρ _) h)
 ·rename_i t x lo hi mx
  have ho:∀y:Option Operand,JD c (y.map (aJ f)) (y.map a.eval):=fun y=>by
   cases y with
   | none=>exact⟨av,av⟩
   | some y=>exact⟨fun q hq=>by simp at hq;subst hq;exact⟨_,rfl,hρ y⟩,av⟩
  exact fin (JF hI (hρ _) (ho _) (ho _) (ho _) h)
 ·exact fin (JI hρ h)
 ·rename_i t x ix;unfold tN at h
  split at h
  ·rename_i e m n z l k kk h1 h2 h3;obtain⟨⟨q1,q2,rfl,⟨q3,q4⟩,q5⟩,rfl⟩:=h;have g2:=hρ x;have g3:=hρ ix;rw [h2]at g2;rw [h3,cH]at g3;obtain⟨vs,g4,g5⟩:=g2;have ht:=E.ok t;rw [h1]at ht;obtain⟨t1,_,i,t2,t3⟩:=ht;obtain⟨d,hd⟩:=(E.ok e).und q1;obtain⟨u,hu,hr⟩:=g5.get (getElem?_eq_getElem q5)
   refine⟨u,?_,?_⟩
   ·have bZ:(kk.toNat:Int)<m:=(by omega);have XY:kk<m:=aa;simp [execOp,g4,g3,Instr.index,asIntOf,run_underlying t1,q3,XY,c7 t2,t3,part,mq hd,(E.ok e).ajQ q1,q2,hu]
   ·rw [show l.getD kk.toNat .undef=l[kk.toNat]by simp [getD,getElem?_eq_getElem q5]];exact eZ hr
  ·rename_i s k kk h1 h2 h3;obtain⟨h0,b,hb,rfl⟩:=h;have g2:=hρ x;have g3:=hρ ix;rw [h2]at g2;rw [h3,cH]at g3;simp only [az,aB,de]at g2;have ht:=E.ok t;rw [h1]at ht;refine⟨.int .u8 b.toNat,by simp [execOp,g2,g3,Instr.index,asIntOf,run_underlying ht.1,h0,hb],cH.2 rfl⟩
  ·exact False.elim h
 ·rename_i g fs bF;have mp:∀l:Array Operand,(l.toList.map fun x=>aJ f x).all pO=true->aN (aB c) (l.toList.map fun x=>aJ f x) (l.map a.eval).toList:=fun l hl=>by refine aN.bT av fun k p u lU hu=>?_;have h1:pO p=true:=all_eq_true.1 hl _ (mem_of_getElem? lU);simp at lU hu;obtain⟨x,hx,rfl⟩:=lU;obtain⟨y,hy,rfl⟩:=hu;rw [hx]at hy;cases hy;exact Pd (hρ x) h1
  split at h
  ·obtain⟨⟨h1,h2⟩,rfl⟩:=h;exact⟨.func (.func g) (fs.map a.eval) (bF.map a.eval),by simp [execOp,Instr.makeFunc],(fs.map a.eval).toList,(bF.map a.eval).toList,by rw [Array.toArray_toList,Array.toArray_toList],mp fs h1,mp bF h2⟩
  obtain⟨⟨Xw,hp⟩,rfl⟩:=h;have adX:fs = #[]:=by have:=congrArg toArray Xw;simpa using this
  subst adX;refine⟨.func (.func g) #[] (bF.map a.eval),by simp [execOp,Instr.makeFunc],?_⟩;simp only [az,aB,de];refine⟨(bF.map a.eval).toList,by rw [Array.toArray_toList],cI.2 (aN.bT av fun k p u lU hu=>?_)⟩;simp at lU hu;obtain⟨x,hx,rfl⟩:=lU;obtain⟨y,hy,rfl⟩:=hu;rw [hx]at hy;cases hy;have h1:cB (aJ f x)=true:=all_eq_true.1 hp _ (by simp;exact⟨x,Array.mem_of_getElem? hx,rfl⟩);exact az.rep (hρ x) h1
 ·rename_i x t;unfold xH at h
  split at h
  ·rename_i e n b z hE;obtain⟨hu,_⟩:=fM hE;obtain⟨n',hn,rfl⟩:=h;have hx:=hρ x;have key:∀A cap,a.eval x = .slice A n' cap->(execOp a.eval { dst:=dst,op:=.call { callee:=.builtin .len,args:=⟨[x]⟩,argTypes:=⟨[t]⟩ },type:=type,pos:=pos,after:=after,guard:=guard }).run E.P c.w = .ok (.value (.int .i64 n')) c.w:=(by intro A cap hA;simp [execOp,resolve,invoke,builtin,Builtin.len_,hA,run_underlying hu,goInt]);refine⟨.int .i64 n',?_,cH.2 rfl⟩;unfold Pc at hn
   split at hn
   ·rename_i heq;rw [heq]at hx;simp only [az,aB,de]at hx;exact key none 0 (by rw [hx,hn])
   ·rename_i heq;rw [heq]at hx;simp only [az,aB,de]at hx;obtain⟨A,cap,hA,_⟩:=hx;exact key A cap (by rw [hA,hn])
   ·rename_i heq;rw [heq]at hx;simp only [az,aB,de]at hx;obtain⟨A,hA,_⟩:=hx;exact key A _ (by rw [hA,hn])
   ·rename_i heq;rw [heq]at hx;simp only [az,aB]at hx;obtain⟨⟨r,hr,iZ⟩,rfl⟩:=hn
    rcases(hx.2 r hr iZ).2 with ⟨_,A,m,cap,_,hA⟩ | ⟨_,g,m,cap,A,_,_,hA,_⟩
    ·exact key A cap hA
    ·exact key (some A) _ hA
   ·exact False.elim hn
  ·exact False.elim h
 ·rename_i x y ts;unfold Sx at h
  split at h
  ·rename_i k1 a1 k2 a2 h1 h2;subst h;have g1:=hρ x;have g2:=hρ y;rw [h1,cH]at g1;rw [h2,cH]at g2;refine⟨.int k1 (if a2>a1 then a2 else a1),by simp [execOp,resolve,invoke,builtin,Builtin.max_,Builtin.max2,g1,g2],cH.2 rfl⟩
  ·exact False.elim h
 ·rename_i x y ts;unfold Sy at h
  split at h
  ·rename_i k1 a1 k2 a2 h1 h2;subst h;have g1:=hρ x;have g2:=hρ y;rw [h1,cH]at g1;rw [h2,cH]at g2;refine⟨.int k1 (if a2<a1 then a2 else a1),by simp [execOp,resolve,invoke,builtin,Builtin.min_,Builtin.min2,g1,g2],cH.2 rfl⟩
  ·exact False.elim h
 ·rename_i x;unfold wQ at h;have hx:=hρ x
  split at h
  ·rename_i l heq;rw [heq]at hx;subst h;have z7:=hx;simp only [az,aB,de]at hx;obtain⟨b,o,hv,_⟩:=hx;exact⟨a.eval x,by simp [execOp,hv],z7⟩
  ·rename_i id ver i j heq;rw [heq]at hx;obtain⟨⟨r,hr,iZ⟩,rfl⟩:=h;have z7:=hx;simp only [az,aB]at hx;obtain⟨g,n,cap,_,hv⟩:=hx.2 r hr iZ;exact⟨a.eval x,by simp [execOp,hv],z7⟩
  ·exact False.elim h
 ·rename_i t x;obtain⟨ht,id,ver,heq,rfl⟩:=h;have hx:=hρ x;rw [heq]at hx;have hk:=E.ok t;rw [ht]at hk;obtain⟨e,hu⟩:=qE hk.1;refine⟨.iface t (a.eval x),by simp [execOp,Instr.makeInterface,run_underlying hu],⟨⟨hx.1.1,rfl⟩,fun r hr hv=>?_⟩⟩;obtain⟨g,n,cap,h1,h2⟩:=hx.2 r hr hv;exact⟨g,n,cap,h1,by rw [h2];simp⟩
 ·exact False.elim h
end
def dH{α:Type}(f:Nat->α)(i:Nat)(x:α):Nat->α:=fun j=>if j=i then x else f j
theorem fG(f:Nat->α)(i:Nat)(x:α):dH f i x i=x:=by simp [dH]
theorem iO(f:Nat->α)(x:α)(h:j≠i):dH f i x j=f j:=by simp [dH,h]
def ib(rows:Rows):PV->Prop
 | .own id ver _ _=>∃r,rows id=some r∧r.ver=ver
 | .ptr id ver _ _=>∃r,rows id=some r∧r.ver=ver
 | .m7 _ id ver=>∃r,rows id=some r∧r.ver=ver
 | .ag _=>False
 | .cW _=>False
 | .lR _ _ _=>False
 | .undef=>False
 | _=>True
section
variable {E:Env} {c:Cx} {w0:World} {S0:dz}
theorem aB.one(h:aB c p v)(ho:ib c.rows p):v.oneCell'=true:=by
 cases p with
 | own id ver off len =>
  obtain⟨r,hr,hv⟩:=ho;simp only [aB]at h;rcases(h.2 r hr hv).2 with ⟨_,A,n,cap,_,rfl⟩ | ⟨_,g,n,cap,A,_,_,rfl,_⟩<;>rfl
 | ptr id ver i j=>exact h.1.2
 | m7 t id ver=>exact h.1.2
 | ag l=>exact ho.elim
 | cW l=>exact ho.elim
 | lR f fs bF=>exact ho.elim
 | undef=>exact ho.elim
 | bool b=>simp only [aB,de]at h;subst h;rfl
 | int k n=>simp only [aB,de]at h;subst h;rfl
 | str s=>simp only [aB,de]at h;subst h;rfl
 | kg=>simp only [aB,de]at h;subst h;rfl
 | nil=>simp only [aB,de]at h;subst h;rfl
 | sl l=>simp only [aB,de]at h;obtain⟨a,cap,rfl,_⟩:=h;rfl
 | iE l=>simp only [aB,de]at h;obtain⟨a,rfl,_⟩:=h;rfl
 | rd l=>simp only [aB,de]at h;obtain⟨a,o,rfl,_⟩:=h;rfl
 | fn g l=>simp only [aB,de]at h;obtain⟨a,rfl,_⟩:=h;rfl
def cD:PV->Option (List PV)
 | .ag l=>some l
 | .cW _=>none
 | .lR _ _ _=>none
 | .undef=>none
 | p=>some [p]
theorem mv(h:az c p v)(hc:cD p=some l)(ho:∀q∈l,ib c.rows q):aN (aB c) l v.cells.toList ∧ ∀u∈v.cells.toList,u.oneCell'=true:=by
 have key:aN (aB c) l v.cells.toList:=by
  have one:∀q:PV,p=q->l = [q]->(az c q v->aB c q v)->aN (aB c) l v.cells.toList:=by rintro q rfl rfl hq;have h1:=hq h;have h2:=h1.one (ho _ av);have h3:v.cells = #[v]:=(by cases v<;>simp_all [Value.cells,Value.oneCell']);rw [h3];exact⟨h1,trivial⟩
  cases p with
  | ag l' =>
   simp only [cD,Option.some.injEq]at hc;subst hc;obtain⟨vs,rfl,xK⟩:=h;simpa [Value.cells]using xK
  | cW _=>simp [cD]at hc
  | lR _ _ _=>simp [cD]at hc
  | undef=>simp [cD]at hc
  | _ =>
   simp only [cD,Option.some.injEq]at hc;exact one _ rfl hc.symm (fun hh=>by simpa only [az]using hh)
 refine⟨key,fun u hu=>?_⟩;obtain⟨k,hk⟩:=getElem?_of_mem hu;have hl:k<l.length:=by rw [key.length];exact(List.getElem?_eq_some_iff.1 hk).1
 obtain⟨u',h1,h2⟩:=key.get (getElem?_eq_getElem hl);rw [hk]at h1;cases h1;exact h2.one (ho _ (getElem_mem hl))
theorem Inv.step(hI:Inv w0 S0 c)(hg:c.w.grownBy w' ob)(R9:∀g,ob=some g->w0.heap.size<=g ∧ ∀o,¬c.S g o) :
  Below w0.heap.size w0 w'∧(∀b o,c.S b o->w'.cell? ⟨b,o,none⟩=c.w.cell? ⟨b,o,none⟩):=by
 refine⟨hI.below.grown hg hI.below.size (fun k hk=>(R9 k hk).1),fun b o hS=>World.cell?_of_block (hg.block b (hI.lt hS) ?_)⟩;intro h;exact(R9 b h.symm).2 o hS
theorem Inv.set(hI:Inv w0 S0 c){r':Row}{v':Value}{xs:List Value}(hg:c.w.grownBy w' ob)
  (R9:∀g,ob=some g->w0.heap.size<=g∧(∀o,¬c.S g o) ∧ ∀iX r,c.rows iX=some r->iX≠id->(c.β iX).ownBlock≠some g)
  (i0:w'.ownsRow w0.heap.size r'.e r'.size v' r'.els.length xs) (fh:aN (aB c) r'.els.flatten xs) (i3:∀x∈xs,x.oneCell'=true)
  (hlen:∀e∈r'.els,e.length=r'.size) (jO:0<r'.size) (oT:∀g,v'.ownBlock=some g->ob=some g∨c.w.heap.size<=g) (iZ:¬c.used r'.ver) :
  Inv w0 S0 { c with w:=w',β:=dH c.β id v',rows:=dH c.rows id (some r'),used:=fun v=>v=r'.ver∨c.used v } ∧
  so c { c with w:=w',β:=dH c.β id v',rows:=dH c.rows id (some r'),used:=fun v=>v=r'.ver∨c.used v }:=by
 obtain⟨Ph,CX⟩:=hI.step hg fun g h=>⟨(R9 g h).1,(R9 g h).2.1⟩
 have Cg:so c { c with w:=w',β:=dH c.β id v',rows:=dH c.rows id (some r'),used:=fun v=>v=r'.ver∨c.used v }:=by
  refine⟨fun _ _ h=>h,CX,fun _ h => .inr h,fun iX r hr=>?_⟩
  by_cases fp:iX=id
  ·subst fp;simp only [fG,Option.some.injEq]at hr;subst hr;exact .inl iZ
  ·simp only [iO _ _ fp]at hr |-;exact .inr ⟨r,hr,rfl,rfl,rfl,by first | rfl | trivial⟩
 refine⟨⟨Ph,hI.ext,fun b o h=>(hI.new b o h).imp (fun h=>h) fun h=>⟨h.1,Nat.lt_of_lt_of_le h.2 hg.size⟩,hI.XV,fun iX r hr=>?_,fun iX r hr=>?_,fun i j r s g hr hs h1 h2=>?_,by
  obtain⟨N,hN⟩:=hI.fin;refine⟨max N (r'.ver+1),fun v hv=>?_⟩
  rcases hv with hv | hv
  ·have hv:v=r'.ver:=hv;omega
  ·have:=hN v hv;omega⟩,Cg⟩
 ·by_cases fp:iX=id
  ·subst fp;simp only [fG,Option.some.injEq]at hr;subst hr;exact .inl rfl
  ·simp only [iO _ _ fp]at hr;exact .inr (hI.clock iX r hr)
 ·by_cases fp:iX=id
  ·subst fp;simp only [fG,Option.some.injEq]at hr;subst hr;refine⟨⟨xs,by simpa only [fG]using i0,fh.mono (aB.pM Cg),i3⟩,hlen,fun g o Gk hS=>?_,jO⟩;simp only [fG]at Gk
   rcases oT g Gk with h | h
   ·exact(R9 g h).2.1 o hS
   ·have:=hI.lt (show c.S g o from hS);omega
  ·simp only [iO _ _ fp]at hr;obtain⟨⟨ys,g1,g2,g3⟩,g4,g5,g6⟩:=hI.row iX r hr
   refine⟨⟨ys,?_,g2.mono (aB.pM Cg),g3⟩,g4,fun g o Gk hS=>?_,g6⟩
   ·simp only [iO _ _ fp];refine g1.kept hg ?_;cases hb:(c.β iX).ownBlock with
    | none=>exact .inl rfl
    | some g =>
     right;intro he;exact(R9 g he.symm).2.2 iX r hr fp hb
   ·simp only [iO _ _ fp]at Gk;exact g5 g o Gk hS
 ·-- apart
  have other:∀(k:Nat) (t:Row) (g:Nat),k≠id->c.rows k=some t->(c.β k).ownBlock=some g->v'.ownBlock=some g->False:=by
   intro k t g hk ht hb hv
   rcases oT g hv with h | h
   ·exact(R9 g h).2.2 k t ht hk hb
   ·obtain⟨⟨ys,g1,_,_⟩,_⟩:=hI.row k t ht;have:=(g1.lt g hb).2;omega
  by_cases hi:i=id
  ·by_cases hj:j=id
   ·rw [hi,hj]
   ·subst hi;simp only [fG,iO _ _ hj]at h1 h2 hs;exact(other j s g hj hs h2 h1).elim
  ·by_cases hj:j=id
   ·subst hj;simp only [fG,iO _ _ hi]at h1 h2 hr;exact(other i r g hi hr h1 h2).elim
   ·simp only [iO _ _ hi,iO _ _ hj]at h1 h2 hr hs;exact hI.apart i j r s g hr hs h1 h2
theorem Inv.dH(hI:Inv w0 S0 c){w':World}{id:Nat}{r r':Row}{xs:List Value}(hr:c.rows id=some r)(hg:c.w.grownBy w' (c.β id).ownBlock)
  (i0:w'.ownsRow w0.heap.size r'.e r'.size (c.β id) r'.els.length xs) (fh:aN (aB c) r'.els.flatten xs) (i3:∀x∈xs,x.oneCell'=true)
  (hlen:∀e∈r'.els,e.length=r'.size) (iZ:r'.ver=r.ver) (abr:r'.size=r.size) (z8:r'.els.length=r.els.length) :
  Inv w0 S0 { c with w:=w',rows:=Pm.dH c.rows id (some r') }∧so c { c with w:=w',rows:=Pm.dH c.rows id (some r') }:=by
 have R9:∀g,(c.β id).ownBlock=some g->w0.heap.size<=g ∧ ∀o,¬c.S g o:=by intro g h;obtain⟨⟨ys,g1,_,_⟩,_,g5,_⟩:=hI.row id r hr;exact⟨(g1.lt g h).1,fun o=>g5 g o h⟩
 obtain⟨Ph,CX⟩:=hI.step hg R9
 have Cg:so c { c with w:=w',rows:=Pm.dH c.rows id (some r') }:=by
  refine⟨fun _ _ h=>h,CX,fun _ h=>h,fun iX s hs=>?_⟩
  by_cases fp:iX=id
  ·subst fp;simp only [fG,Option.some.injEq]at hs;subst hs;exact .inr ⟨r,hr,iZ.symm,abr.symm,z8.symm,rfl⟩
  ·simp only [iO _ _ fp]at hs;exact .inr ⟨s,hs,rfl,rfl,rfl,rfl⟩
 refine⟨⟨Ph,hI.ext,fun b o h=>(hI.new b o h).imp (fun h=>h) fun h=>⟨h.1,Nat.lt_of_lt_of_le h.2 hg.size⟩,hI.XV,fun iX s hs=>?_,fun iX s hs=>?_,fun i j t s g ht hs h1 h2=>?_,hI.fin⟩,Cg⟩
 ·by_cases fp:iX=id
  ·subst fp;simp only [fG,Option.some.injEq]at hs;subst hs;rw [iZ];exact hI.clock iX r hr
  ·simp only [iO _ _ fp]at hs;exact hI.clock iX s hs
 ·by_cases fp:iX=id
  ·subst fp;simp only [fG,Option.some.injEq]at hs;subst hs;exact⟨⟨xs,i0,fh.mono (aB.pM Cg),i3⟩,hlen,(hI.row iX r hr).aqq,by rw [abr];exact(hI.row iX r hr).pos⟩
  ·simp only [iO _ _ fp]at hs;obtain⟨⟨ys,g1,g2,g3⟩,g4,g5,g6⟩:=hI.row iX s hs;refine⟨⟨ys,g1.kept hg ?_,g2.mono (aB.pM Cg),g3⟩,g4,g5,g6⟩;cases hb:(c.β iX).ownBlock with
   | none=>exact .inl rfl
   | some g =>
    right;intro he;exact fp (hI.apart iX id s r g hs hr hb he.symm)
 ·have live:∀k t,Pm.dH c.rows id (some r') k=some t -> ∃t',c.rows k=some t':=by
   intro k t hk
   by_cases fp:k=id
   ·subst fp;exact⟨r,hr⟩
   ·rw [iO _ _ fp]at hk;exact⟨t,hk⟩
  obtain⟨t',ht'⟩:=live i t ht;obtain⟨s',wF⟩:=live j s hs;exact hI.apart i j t' s' g ht' wF h1 h2
end
end Pm
