import Derived.Laws.CopyOwn
import Derived.ArgAppend
import Derived.Test.YtiobceocpabjdaaGreatGaa
set_option linter.unusedSimpArgs false
set_option linter.unusedVariables false
namespace Pm
open Go Go.RowKit List
variable {ids:List Nat}{id n cap i j k ver:Nat}{r:Row}{g:FuncId}{p v y:PV}{P:Program}{args core z:List PV}{e t t2:TypeId}{l els gY:List (List PV)}{c c':Cx}{o:Oper}{rows rows':Rows}{u:Option (Nat × Row)}{vx v' vy:Value}{ρ:Operand->PV}{U:Nat->Prop}{f f':Nat->PV}{a:Act}{w w':World}{d:Option Tmp}{σ:PS}{Q:Exit->Act->World->Prop}{A:Option Addr}{xs:List Value}{K':Act->World->Prop}
def CY(rows:Rows)(ids:List Nat):Rows:=fun j=>if j∈ids then none else rows j
def JL(c:Cx)(ids:List Nat):dz:=fun b o=>c.S b o ∨ ∃id∈ids,(∃r,c.rows id=some r)∧(c.β id).ownBlock=some b
section
variable {E:Env} {c:Cx} {w0:World} {S0:dz}
def B7(c:Cx)(ids:List Nat):Cx:={ c with S:=JL c ids,rows:=CY c.rows ids }
theorem jf(c:Cx)(ids:List Nat):so c (B7 c ids):=
 ⟨fun _ _ h => .inl h,fun _ _ _=>rfl,fun _ h=>h,fun id r hr=>by
  simp only [B7,CY]at hr |-
  split at hr
  ·cases hr
  ·exact .inr ⟨r,hr,rfl,rfl,rfl,by first | rfl | trivial⟩⟩
theorem Inv.freeze(hI:Inv w0 S0 c)(ids:List Nat):Inv w0 S0 (B7 c ids):=by
 have live:∀ {k:Nat} {t:Row},CY c.rows ids k=some t->c.rows k=some t∧k ∉ ids:=by
  intro k t h;simp only [CY]at h
  split at h
  ·cases h
  ·rename_i hk;exact⟨h,hk⟩
 have aqy:∀ {id:Nat} {r:Row} {g:Nat},c.rows id=some r->(c.β id).ownBlock=some g->w0.heap.size<=g∧g<c.w.heap.size:=by intro id r g hr hg;obtain⟨⟨ys,g1,_,_⟩,_⟩:=hI.row id r hr;exact g1.lt g hg
 refine⟨hI.below,fun b o h => .inl (hI.ext b o h),fun b o h=>?_,hI.XV,fun id r hr=>hI.clock id r (live hr).1,fun id r hr=>?_,fun i j r s g hr hs=>hI.apart i j r s g (live hr).1 (live hs).1,hI.fin⟩
 ·rcases h with h | ⟨id,_,⟨r,hr⟩,hb⟩
  ·exact hI.new b o h
  ·exact .inr (aqy hr hb)
 ·obtain⟨gI,hk⟩:=live hr;obtain⟨⟨ys,g1,g2,g3⟩,g4,g5,g6⟩:=hI.row id r gI;refine⟨⟨ys,g1,g2.mono (aB.pM (jf c ids)),g3⟩,g4,fun g o hg hS=>?_,g6⟩
  rcases hS with h | ⟨iX,z9,⟨r',bE⟩,hb⟩
  ·exact g5 g o hg h
  ·have:=hI.apart id iX r r' g gI bE hg hb;subst this;exact hk z9
theorem MB(hI:Inv w0 S0 c)(hp:∀id∈ids,∀r,c.rows id=some r -> ∀e∈r.els,∀p∈e,aF p=true)(fp:id∈ids)(hr:c.rows id=some r)
  {g:Nat} (hβ:c.β id = .slice (some ⟨g,0,none⟩) n cap) {el:List PV} (hi:r.els[i]? = some el) (hj:el[j]? = some p) :
  ∃v,c.w.cell? ⟨g,i*r.size+j,none⟩=some v∧JL c ids g (i*r.size+j)∧v.oneCell'=true∧de (JL c ids) c.w p v:=by
 obtain⟨v,h1,h2,h3⟩:=uO hI hr hβ hi hj;refine⟨v,h1, .inr ⟨id,fp,⟨r,hr⟩,by simp [hβ,Value.ownBlock]⟩,h2,?_⟩;have h4:=h3.rep (hp id fp r hr el (mem_of_getElem? hi) p (mem_of_getElem? hj));exact de.mono (fun _ _ h => .inl h) (fun _ _ _=>rfl) _ _ h4
theorem Aa(hI:Inv w0 S0 c)(hp:∀id∈ids,∀r,c.rows id=some r -> ∀e∈r.els,∀p∈e,aF p=true){v:Value}(h:aB c p v)(s6:∀id∈aL p,id∈ids)(tu:aF (fz c.rows p)=true) :
  de (JL c ids) c.w (fz c.rows p) v:=by
 have mono:∀q u,de c.S c.w q u->de (JL c ids) c.w q u:=fun q u=>de.mono (fun _ _ h => .inl h) (fun _ _ _=>rfl) q u;cases p with
 | own id ver off len =>
  simp only [fz]at tu |-;have fp:id∈ids:=s6 id (by simp [aL]);cases hr:c.rows id with
  | none=>simp [hr,aF]at tu
  | some r =>
   simp only [hr]at tu |-
   by_cases hv:r.ver=ver
   ·simp only [hv,if_true]at tu |-;simp only [aB]at h;obtain⟨hle,h⟩:=h.2 r hr hv;obtain⟨⟨xs,i0,_,_⟩,hlen,_⟩:=hI.row id r hr
    have XX:∀A m cap,c.β id = .slice A m cap->r.els.length<=cap∧cap<=maxLen:=by
     intro A m cap hβ;rw [hβ]at i0
     rcases i0.2 with ⟨h',hz⟩ | ⟨g,jj,cur,h',_,_,JG,hm,_⟩
     ·simp at h';exact⟨aa,by rw [h'.2.2];simp⟩
     ·simp at h';obtain⟨_,_,rfl⟩:=h';exact⟨JG,hm⟩
    have yT:((r.els.drop off).take len).length=len:=by simp;omega
    have els:∀g n cap,c.β id = .slice (some ⟨g,0,none⟩) n cap->fL (JL c ids) c.w g (off*r.size) ((r.els.drop off).take len):=by
     intro g n cap hβ;refine ot (n:=r.size) (fun e he=>hlen e (mem_of_mem_drop (mem_of_mem_take he))) fun k e hk=>?_;rw [getElem?_take]at hk
     split at hk
     ·rw [getElem?_drop]at hk;refine ju fun j q hq=>?_;have:=MB hI hp fp hr hβ hk hq;rw [show off*r.size+k*r.size+j=(off+k)*r.size+j by rw [Nat.add_mul]];exact this
     ·cases hk
    simp only [de];rw [yT]
    rcases h with ⟨rfl,A,n,cap,hβ,rfl⟩ | ⟨jO,g,n,cap,A,hβ,hoc,rfl,ha⟩
    ·obtain⟨c1,c2⟩:=XX _ _ _ hβ;refine⟨A,cap,rfl,aa,c2,?_⟩
     rcases Nat.eq_zero_or_pos len with h0 | h0
     ·left;exact eq_nil_of_length_eq_zero (by rw [yT];exact h0)
     ·right;obtain⟨g,jj,qK⟩:=qJ hI hr aa;rw [hβ]at qK;simp only [Value.slice.injEq]at qK;obtain⟨rfl,rfl,rfl⟩:=qK;exact⟨g,0,rfl,by simpa using els g _ _ hβ⟩
    ·obtain⟨c1,c2⟩:=XX _ _ _ hβ;refine⟨some A,cap-off,rfl,aa,aa,?_⟩
     rcases ha with rfl | rfl
     ·left;exact eq_nil_of_length_eq_zero yT
     ·right;exact⟨g,off*r.size,rfl,els g n cap hβ⟩
   ·simp [hv,aF]at tu
 | ptr id ver i j =>
  simp only [fz]at tu |-;have fp:id∈ids:=s6 id (by simp [aL]);cases hr:c.rows id with
  | none=>simp [hr,aF]at tu
  | some r =>
   simp only [hr]at tu |-
   by_cases hv:r.ver=ver
   ·simp only [hv,if_true]at tu |-;simp only [aB]at h;obtain⟨g,n,cap,hβ,rfl⟩:=h.2 r hr hv;simp only [de];refine⟨g,i*r.size+j,rfl,ju fun k q hq=>?_⟩;rw [getElem?_drop]at hq;cases mg:r.els[i]? with
    | none=>simp [getD,mg]at hq
    | some el =>
     have Sa:el[j+k]? = some q:=(by simpa [getD,mg]using hq);have:=MB hI hp fp hr hβ mg Sa;rw [show i*r.size+j+k=i*r.size+(j+k)by omega];exact this
   ·simp [hv,aF]at tu
 | nil =>
  simp only [aB,de]at h;subst h;simp only [fz,de];exact⟨none,0,rfl,av,by simp [maxLen], .inl (by first | rfl | trivial)⟩
 | iE l =>
  simp only [fz];have:=mono _ _ (show de c.S c.w (.iE l) v by simpa only [aB]using h);simp only [de]at this |-;obtain⟨A,rfl,h1,h2⟩:=this;exact⟨A,l.length,rfl,Nat.le_refl _,h1,h2⟩
 | undef=>simp [fz,aF]at tu
 | m7=>simp [fz,aF]at tu
 | lR=>simp [fz,aF]at tu
 | _=>simp only [fz];exact mono _ _ (by simpa only [aB]using h)
theorem En(hI:Inv w0 S0 c)(hp:∀id∈ids,∀r,c.rows id=some r -> ∀e∈r.els,∀p∈e,aF p=true){v:Value}(h:az c p v)(s6:∀id∈dA p,id∈ids)(tu:cB (pz c.rows p)=true) :
  de (JL c ids) c.w (pz c.rows p) v:=by
 cases p with
 | ag l =>
  obtain⟨vs,rfl,xK⟩:=h;simp only [pz,cB]at tu |-;simp only [de];refine⟨vs,rfl,cI.2 (aN.bT (by simp [xK.length]) fun k q u hq hu=>?_)⟩;simp at hq;obtain⟨q',Sa,rfl⟩:=hq;obtain⟨u',h1,h2⟩:=xK.get Sa;rw [hu]at h1;cases h1;refine Aa hI hp h2 (fun id fp=>s6 id ?_) (all_eq_true.1 tu _ (by simp;exact⟨q',mem_of_getElem? Sa,rfl⟩));simp only [dA,mem_flatMap];exact⟨q',mem_of_getElem? Sa,fp⟩
 | cW l =>
  obtain⟨vs,rfl,xK⟩:=h;simp only [pz,cB]at tu |-;simp only [de];refine⟨vs,rfl,cI.2 (aN.bT (by simp [xK.length]) fun k q u hq hu=>?_)⟩;simp at hq;obtain⟨q',Sa,rfl⟩:=hq;obtain⟨u',h1,h2⟩:=xK.get Sa;rw [hu]at h1;cases h1;refine Aa hI hp h2 (fun id fp=>s6 id ?_) (all_eq_true.1 tu _ (by simp;exact⟨q',mem_of_getElem? Sa,rfl⟩));simp only [dA,mem_flatMap];exact⟨q',mem_of_getElem? Sa,fp⟩
 | lR=>simp [pz,fz,cB,aF]at tu
 | _ =>
  simp only [pz]at tu |-;refine Aa hI hp (by simpa only [az]using h) (fun id fp=>s6 id (by simpa only [dA]using fp)) ?_
  revert tu
  simp only [fz]
  first
   | (intro tu;simpa only [cB]using tu)
   | (split
      · split
        · intro _;rfl
        · intro tu;exact tu
      · intro tu;exact tu)
end
theorem xM{α:Type}{n:Nat}:∀ {els:List (List α)},(∀e∈els,e.length=n) -> ∀ {i:Nat} {el:List α},els[i]? = some el -> ∀(j:Nat) (l:List α),j+l.length<=el.length ->
  (els.set i (el.take j++l++el.drop (j+l.length))).flatten=els.flatten.take (i*n+j)++l++els.flatten.drop (i*n+j+l.length)
 | [],_,_,_,h,_,_,_=>by simp at h
 | q::els,hn,0,el,h,j,l,hjl=>by simp at h;subst h;simp only [set_cons_zero,flatten_cons,Nat.zero_mul,Nat.zero_add];rw [take_append_of_le_length aa,drop_append_of_le_length hjl];simp
 | q::els,hn,i+1,el,h,j,l,hjl=>by
  have hq:q.length=n:=hn q av;have ih:=xM (els:=els) (n:=n) (fun e he=>hn e (by simp [he])) (i:=i) (el:=el) (au h) j l hjl;simp only [set_cons_succ,flatten_cons,ih];have e1:(i+1)*n+j=q.length+(i*n+j):=by rw [hq,Nat.add_mul];omega
  have e2:(i+1)*n+j+l.length=q.length+(i*n+j+l.length):=aa;rw [e1,show q.length+(i*n+j)+l.length=q.length+(i*n+j+l.length)by omega,take_length_add_append,drop_length_add_append];simp
def qL(E:Env)(t:TypeId)(rows:Rows)(p x v:PV)(u:Option (Nat × Row)):Prop:=
 (E.ty t).known=true∧v = .undef ∧
 match p with
 | .ptr id ver i j=>∃r,rows id=some r∧r.ver=ver ∧ ∃el,r.els[i]? = some el ∧ ∃l,cD x=some l∧(∀q∈l,ib rows q)∧l.length=(E.ty t).size∧j+l.length<=el.length ∧
   u=some (id,{ r with els:=r.els.set i (el.take j++l++el.drop (j+l.length)) })
 | _=>False
def ig(n:Nat):Nat->List (Nat × PV)->Option (List (List PV))
 | _,[]=>some []
 | k,(i,p)::ps =>
  match cD p with
  | some l=>if i=k∧l.length=n then(ig n (k+1) ps).map (l :: ·)else none
  | none=>none
def JM(t:TI)(rows:Rows)(len:Nat)(parts:List (Nat × PV))(v:PV):Prop:=
 match t with
 | .slice _ n _ _=>∃els,ig n 0 parts=some els∧len=els.length∧len<=4096∧n<=4096∧(∀e∈els,∀p∈e,aF (fz rows p)=true∧ib rows p)∧(∀e∈els,∀p∈e,aL p = [])∧v = .iE (els.map fun e=>e.map (fz rows))
 | _=>False
def Gs:=PV × Value->Prop
variable {G:Gs}
instance:Membership (PV × Value) Gs:=⟨fun G p=>G p⟩
def Gs.none:Gs:=fun _=>False
theorem Gs.GF{p:PV × Value}:¬p∈Gs.none:=id
def nV(P:Program)(f:FuncId)(args:List PV)(rows:Rows)(clk:Nat)(R:PV->Rows->Nat->Prop):Prop:=
 (∃fn c,P.funcs[f]? = some fn∧fn.body=some c∧(fn.name == "runtime.NumGoroutine")=false) ∧
 ∀(w0:World) (S0:dz) (c:Cx) (vs:List Value) (G:Gs),Inv w0 S0 c->c.rows=rows->(∀v,c.used v->v<clk)->aN (az c) args vs->(∀p∈G,az c p.1 p.2) ->
  Calls P f vs.toArray c.w fun e w'=>∃v c' r bV,e = .returned v∧c'.w=w'∧Inv w0 S0 c'∧(∀p∈G,az c' p.1 p.2)∧R r c'.rows bV∧(∀v,c'.used v->v<bV)∧az c' r v
def eI:Nat:=1000000
def Xy(o:Option (Nat × Nat))(id ver:Nat):PV:=match o with | none => .ptr id ver 0 0 | some (off,len) => .own id ver off len
def wT(P:Program)(g:FuncId)(o:Option (Nat × Nat))(args:List PV)(e:TypeId)(n:Nat)(els gY:List (List PV))(r:PV):Prop:=
 ∀id ver (rows:Rows) clk,eI<=id->rows id=some ⟨ver,e,n,els⟩->ver<clk ->
  nV P g (Xy o id ver::args) rows clk (fun r' rows' _=>r'=r∧rows' id=some ⟨ver,e,n,gY⟩ ∧ ∀j,eI<=j->j≠id->rows' j=rows j)
def yD(P:Program)(g:FuncId)(args:List PV)(e:TypeId)(n:Nat)(core fD:List PV)(r:PV):Prop:=
 ∀id ver (rows:Rows) clk,eI<=id->rows id=some ⟨ver,e,n,[core]⟩->ver<clk ->
  nV P g (.ptr id ver 0 0::args) rows clk (fun r' rows' _=>r'=r∧rows' id=some ⟨ver,e,n,[fD]⟩ ∧ ∀j,eI<=j->j≠id->rows' j=rows j)
theorem yD.x{fD:List PV}{r:PV}(h:yD P g args e n core fD r):wT P g none args e n [core] [fD] r:=h
def pQ(k:Nat):PV->PV
 | .own id ver off len => .own (id+k) ver off len
 | .ptr id ver i j => .ptr (id+k) ver i j
 | .m7 t id ver => .m7 t (id+k) ver
 | p=>p
def GG(k:Nat):PV->PV
 | .ag l => .ag (l.map (pQ k))
 | .cW l => .cW (l.map (pQ k))
 | .lR f fs bF => .lR f (fs.map (pQ k)) (bF.map (pQ k))
 | p=>pQ k p
def jP(k:Nat)(r:Row):Row:={ r with els:=r.els.map fun e=>e.map (pQ k) }
def JN(k:Nat)(c:Cx):Cx:={ c with β:=fun j=>if k<=j then c.β (j-k)else .slice none 0 0,rows:=fun j=>if k<=j then(c.rows (j-k)).map (jP k)else none }
theorem qM(h:aF p=true):pQ k p=p:=by cases p<;>simp_all [pQ,aF]
theorem uR{l:List PV}(h:∀p∈l,aF p=true):l.map (pQ k)=l:=by
 conv=>rhs;rw [<-map_id l]
 exact map_congr_left fun p hp=>qM (h p hp)
theorem SK(h:cB p=true):GG k p=p:=by
 cases p with
 | ag l=>simp only [GG];rw [uR (all_eq_true.1 h)]
 | cW l=>simp only [GG];rw [uR (all_eq_true.1 h)]
 | own=>simp [cB,aF]at h
 | ptr=>simp [cB,aF]at h
 | m7=>simp [cB,aF]at h
 | lR=>simp [cB,aF]at h
 | _=>rfl
theorem qN:(JN k c).rows (j+k)=(c.rows j).map (jP k):=by simp [JN]
theorem wU:(JN k c).β (j+k)=c.β j:=by simp [JN]
theorem uS(h:(JN k c).rows i=some r):∃j r0,i=j+k∧c.rows j=some r0∧r=jP k r0:=by
 simp only [JN]at h
 split at h
 ·rename_i hk;obtain⟨r0,h1,h2⟩:=Option.map_eq_some_iff.1 h;exact⟨i-k,r0,aa,h1,h2.symm⟩
 ·cases h
theorem aB.sh{v:Value}(h:aB c p v):aB (JN k c) (pQ k p) v:=by
 cases p with
 | own id ver off len =>
  simp only [pQ,aB]at h |-;refine⟨h.1,fun r hr hv=>?_⟩;rw [qN]at hr;obtain⟨r0,h1,rfl⟩:=Option.map_eq_some_iff.1 hr;have:=h.2 r0 h1 hv;rw [wU];simpa [jP]using this
 | ptr id ver i j =>
  simp only [pQ,aB]at h |-;refine⟨h.1,fun r hr hv=>?_⟩;rw [qN]at hr;obtain⟨r0,h1,rfl⟩:=Option.map_eq_some_iff.1 hr;have:=h.2 r0 h1 hv;rw [wU];simpa [jP]using this
 | m7 t id ver =>
  simp only [pQ,aB]at h |-;refine⟨h.1,fun r hr hv=>?_⟩;rw [qN]at hr;obtain⟨r0,h1,rfl⟩:=Option.map_eq_some_iff.1 hr;have:=h.2 r0 h1 hv;rw [wU];simpa [jP]using this
 | undef=>trivial
 | _=>exact h
theorem Ci.sh{k:Nat}{c:Cx}{l:List PV}{vs:List Value}(h2:aN (aB c) l vs):aN (aB (JN k c)) (l.map (pQ k)) vs:=by refine aN.bT (by simp [h2.length]) fun i a b ha hb=>?_;simp at ha;obtain⟨q,hq,rfl⟩:=ha;obtain⟨b',gC,hr⟩:=h2.get hq;rw [hb]at gC;cases gC;exact hr.sh
theorem az.sh{k:Nat}{c:Cx}{p:PV}{v:Value}(h:az c p v):az (JN k c) (GG k p) v:=by
 cases p with
 | ag l=>obtain⟨vs,h1,h2⟩:=h;exact⟨vs,h1,Ci.sh h2⟩
 | cW l=>obtain⟨vs,h1,h2⟩:=h;exact⟨vs,h1,Ci.sh h2⟩
 | lR f fs bF=>obtain⟨us,cs,h1,h2,h3⟩:=h;exact⟨us,cs,h1,Ci.sh h2,Ci.sh h3⟩
 | _=>simp only [az,GG]at h |-;exact h.sh
theorem uT{α β:Type}{f:α->β}:∀ {l:List (List α)},(l.map fun e=>e.map f).flatten=l.flatten.map f
 | []=>rfl
 | e::l=>by show e.map f++(l.map fun e=>e.map f).flatten=(e++l.flatten).map f;rw [uT,map_append]
theorem Inv.sh{w0:World}{S0:dz}{c:Cx}(hI:Inv w0 S0 c)(k:Nat):Inv w0 S0 (JN k c):=by
 refine⟨hI.below,hI.ext,hI.new,hI.XV,fun i r hr=>?_,fun i r hr=>?_,fun i i' r r' g hr gI hg Sb=>?_,hI.fin⟩
 ·obtain⟨j,r0,rfl,h1,rfl⟩:=uS hr;exact hI.clock j r0 h1
 ·obtain⟨j,r0,rfl,h1,rfl⟩:=uS hr;obtain⟨⟨xs,g1,g2,g3⟩,g4,g5,g6⟩:=hI.row j r0 h1;rw [show jP k r0 = { r0 with els:=r0.els.map fun e=>e.map (pQ k) }from rfl]
  refine⟨⟨xs,?_,?_,g3⟩,fun e he=>?_,fun g o hg=>?_,g6⟩
  ·rw [wU];show c.w.ownsRow _ _ _ _ (r0.els.map fun e=>e.map (pQ k)).length xs;rw [length_map];exact g1
  ·show aN _ (r0.els.map fun e=>e.map (pQ k)).flatten xs;rw [uT];refine aN.bT (by rw [length_map];exact g2.length) fun i a b ha hb=>?_;simp only [getElem?_map,Option.map_eq_some_iff]at ha;obtain⟨q,hq,rfl⟩:=ha;obtain⟨b',gC,hr⟩:=g2.get hq;rw [hb]at gC;cases gC;exact hr.sh
  ·simp only [mem_map]at he;obtain⟨e0,he0,rfl⟩:=he;simp [g4 e0 he0]
  ·rw [wU]at hg;exact g5 g o hg
 ·obtain⟨j,r0,rfl,h1,rfl⟩:=uS hr;obtain⟨j',r0',rfl,JK,rfl⟩:=uS gI;rw [wU]at hg Sb;rw [hI.apart j j' r0 r0' g h1 JK hg Sb]
def uU(c:Cx):PV->Prop
 | .own _ ver _ _=>c.used ver
 | .ptr _ ver _ _=>c.used ver
 | .m7 _ _ ver=>c.used ver
 | _=>True
theorem aB.uU{v:Value}(h:aB c p v):uU c p:=by
 cases p with
 | own=>exact h.1
 | ptr=>exact h.1.1
 | m7=>exact h.1.1
 | _=>trivial
theorem tP(h:aF p=true):Pm.uU c p:=by cases p<;>simp_all [Pm.uU,aF]
theorem aB.aqA{c'':Cx}(hS:c''.S=c'.S)(hw:c''.w=c'.w)(hu:c''.used=c.used)(hr:∀id r,c''.rows id=some r -> ∃r',c'.rows (id+k)=some r'∧r'.ver=r.ver∧r'.size=r.size∧r'.els.length=r.els.length)(hβ:∀id,c''.β id=c'.β (id+k))
 {v:Value} (hp:Pm.uU c p) (h:aB c' (pQ k p) v):aB c'' p v:=by
 cases p with
 | own id ver off len =>
  simp only [pQ,aB]at h |-;refine⟨by rw [hu];exact hp,fun r qO hv=>?_⟩;obtain⟨r',h1,h2,h3,h4⟩:=hr id r qO;have:=h.2 r' h1 (h2.trans hv);rw [hβ,<-h3,<-h4];exact this
 | ptr id ver i j =>
  simp only [pQ,aB]at h |-;refine⟨⟨by rw [hu];exact hp,h.1.2⟩,fun r qO hv=>?_⟩;obtain⟨r',h1,h2,h3,h4⟩:=hr id r qO;have:=h.2 r' h1 (h2.trans hv);rw [hβ,<-h3];exact this
 | m7 t id ver =>
  simp only [pQ,aB]at h |-;refine⟨⟨by rw [hu];exact hp,h.1.2⟩,fun r qO hv=>?_⟩;obtain⟨r',h1,h2,h3,h4⟩:=hr id r qO;have:=h.2 r' h1 (h2.trans hv);rw [hβ];exact this
 | undef=>trivial
 | _ =>
  simp only [pQ,aB]at h |-;rw [hS,hw];exact h
theorem wT.frame{o:Option (Nat × Nat)}{r:PV}(h:wT P g o args e n els gY r)(di:args.all cB=true)(hr:cB r=true)(hc:∀x∈els,∀p∈x,aF p=true)(uP:∀x∈gY,∀p∈x,aF p=true)
  {w0:World} {S0:dz} (hI:Inv w0 S0 c) (gq:c.rows id=some ⟨ver,e,n,els⟩) {vs:List Value} (xK:aN (az c) (Xy o id ver::args) vs) :
  Calls P g vs.toArray c.w fun x w'=>∃v c',x = .returned v∧c'.w=w'∧c'.rows=dH c.rows id (some ⟨ver,e,n,gY⟩)∧c'.used=c.used∧(∀p v,az c p v->az c' p v)∧Inv w0 S0 c'∧az c' r v:=by
 obtain⟨N,hN⟩:=hI.fin
 have ajT:(JN eI c).rows (id+eI)=some ⟨ver,e,n,els⟩:=by
  rw [qN,gq]
  have hm:els.map (fun e=>e.map (pQ eI))=els:=by
   conv=>rhs;rw [<-map_id els]
   exact map_congr_left fun x hx=>uR (hc x hx)
  simp [jP,hm]
 have iZ:ver<N:=hN ver (hI.clock id _ gq);obtain⟨_,iL⟩:=h (id+eI) ver (JN eI c).rows N (Nat.le_add_left _ _) ajT iZ
 have aqB:aN (az (JN eI c)) (Xy o (id+eI) ver::args) vs:=by
  refine aN.bT (au xK.length) fun i a b ha hb=>?_;cases i with
  | zero =>
   simp at ha;subst ha;obtain⟨b',gC,qO⟩:=xK.get (k:=0) (a:=Xy o id ver) av;rw [hb]at gC;cases gC;have hs:=az.sh (k:=eI) qO;cases o<;>exact hs
  | succ i =>
   simp at ha;obtain⟨b',gC,qO⟩:=xK.get (k:=i+1) (a:=a) (au ha);rw [hb]at gC;cases gC;have:=az.sh (k:=eI) qO;rwa [SK (all_eq_true.1 di a (mem_of_getElem? ha))]at this
 refine(iL w0 S0 (JN eI c) vs (fun x=>∃p,az c p x.2∧x.1=GG eI p) (hI.sh eI) rfl hN aqB ?_).mono ?_
 ·rintro⟨q,v⟩ ⟨p,hp,rfl⟩;exact hp.sh
 rintro x w' ⟨v,c',r',bV,rfl,rfl,mh,B8,⟨rfl,fp,aqC⟩,tQ,JO⟩
 have hrw:∀j,c'.rows (j+eI)=if j=id then some ⟨ver,e,n,gY⟩else(c.rows j).map (jP eI):=fun j=>by
  by_cases hj:j=id
  ·subst hj;rw [if_pos rfl];exact fp
  ·rw [if_neg hj,aqC (j+eI) (Nat.le_add_left _ _) aa,qN]
 have bE:∀(j:Nat) (r:Row),(dH c.rows id (some ⟨ver,e,n,gY⟩)) j=some r -> ∃r',c'.rows (j+eI)=some r'∧r'.ver=r.ver∧r'.size=r.size∧r'.els.length=r.els.length:=fun j r hj=>by
  rw [hrw j]
  by_cases B9:j=id
  ·rw [if_pos B9];subst B9;simp only [fG,Option.some.injEq]at hj;subst hj;exact⟨_,rfl,rfl,rfl,rfl⟩
  ·rw [if_neg B9];rw [iO _ _ B9]at hj;exact⟨jP eI r,by rw [hj];rfl,rfl,rfl,by simp [jP]⟩
 obtain⟨c2,e1,e2,e3,e4,e5⟩:∃c2:Cx,c2.S=c'.S∧c2.w=c'.w∧c2.β=(fun j=>c'.β (j+eI))∧c2.rows=dH c.rows id (some ⟨ver,e,n,gY⟩)∧c2.used=c.used:=⟨⟨c'.S,c'.w,_,_,c.used⟩,rfl,rfl,rfl,rfl,rfl⟩
 have back:∀ {p:PV} {v:Value},uU c p->aB c' (pQ eI p) v->aB c2 p v:=fun hp hh=>aB.aqA (c:=c) (c':=c') (k:=eI) e1 e2 e5 (by rw [e4];exact bE) (fun _=>by rw [e3]) hp hh
 refine⟨v,c2,rfl,e2,e4,e5,fun p v hp=>?_,⟨by rw [e2];exact mh.below,by rw [e1];exact mh.ext,by rw [e1,e2];exact mh.new,mh.XV,fun j r hj=>?_,fun j r hj=>?_,fun i i' r r' g hri ajU hg Sb=>?_,by rw [e5];exact hI.fin⟩,?_⟩
 ·have h2:=B8 (GG eI p,v) ⟨p,hp,rfl⟩;have uV:∀ {l:List PV} {vs:List Value},aN (aB c) l vs->aN (aB c') (l.map (pQ eI)) vs->aN (aB c2) l vs:=fun {l vs} h4 h6=>aN.bT h4.length fun i a b ha hb=>by obtain⟨b',gC,q1⟩:=h4.get ha;rw [hb]at gC;cases gC;obtain⟨b',gC,q2⟩:=h6.get (k:=i) (a:=pQ eI a) (by simp [ha]);rw [hb]at gC;cases gC;exact back q1.uU q2
  cases p with
  | ag l =>
   obtain⟨vs,h3,h4⟩:=hp;obtain⟨tM,h5,h6⟩:=h2;have hvv:vs=tM:=(by rw [h3]at h5;simpa using h5);subst hvv;exact⟨vs,h3,uV h4 h6⟩
  | cW l =>
   obtain⟨vs,h3,h4⟩:=hp;obtain⟨tM,h5,h6⟩:=h2;have hvv:vs=tM:=(by rw [h3]at h5;simpa using h5);subst hvv;exact⟨vs,h3,uV h4 h6⟩
  | lR f fs bF =>
   obtain⟨us,cs,h3,h4,h4'⟩:=hp;obtain⟨us',SL,h5,h6,h6'⟩:=h2;have hvv:us=us'∧cs=SL:=(by rw [h3]at h5;simpa using h5);obtain⟨rfl,rfl⟩:=hvv;exact⟨us,cs,h3,uV h4 h6,uV h4' h6'⟩
  | _=>simp only [az,GG]at hp h2 |-;exact back hp.uU h2
 ·rw [e4]at hj;rw [e5]
  by_cases B9:j=id
  ·subst B9;simp only [fG,Option.some.injEq]at hj;subst hj;exact(show c.used ver from hI.clock j _ gq)
  ·simp only [iO _ _ B9]at hj;exact hI.clock j r hj
 ·rw [e4]at hj;have eβ:c2.β j=c'.β (j+eI):=by rw [e3]
  by_cases B9:j=id
  ·subst B9;simp only [fG,Option.some.injEq]at hj;subst hj;obtain⟨⟨xs,g1,g2,g3⟩,g4,g5,g6⟩:=mh.row (j+eI) _ fp;refine⟨⟨xs,by rw [e2,eβ];exact g1,?_,g3⟩,g4,by rw [eβ,e1];exact g5,g6⟩;refine aN.bT g2.length fun i a b ha hb=>?_;obtain⟨b',gC,q⟩:=g2.get ha;rw [hb]at gC;cases gC;obtain⟨x,hx,hax⟩:=mem_flatten.1 (mem_of_getElem? ha);have SM:=uP x hx a hax;refine back (tP SM) ?_;rw [qM SM];exact q
  ·simp only [iO _ _ B9]at hj;have JP:c'.rows (j+eI)=some (jP eI r):=(by rw [hrw j,if_neg B9,hj];rfl);obtain⟨⟨xs,g1,g2,g3⟩,g4,g5,g6⟩:=mh.row (j+eI) _ JP;obtain⟨⟨ys,_,k2,_⟩,_⟩:=hI.row j r hj;have el:(jP eI r).els.length=r.els.length:=length_map ..
   refine⟨⟨xs,by rw [e2,eβ,<-el];exact g1,?_,g3⟩,fun e he=>?_,by rw [eβ,e1];exact g5,g6⟩
   ·have g2':aN (aB c') (r.els.flatten.map (pQ eI)) xs:=(by rw [<-uT];exact g2);refine aN.bT (by have:=g2'.length;rwa [length_map]at this) fun i a b ha hb=>?_;obtain⟨b',gC,q⟩:=g2'.get (k:=i) (a:=pQ eI a) (by rw [getElem?_map,ha];rfl);rw [hb]at gC;cases gC;obtain⟨_,_,q2⟩:=k2.get ha;exact back q2.uU q
   ·have:=g4 (e.map (pQ eI)) (by simp only [jP,mem_map];exact⟨e,he,rfl⟩);rw [length_map]at this;exact this
 ·rw [e4]at hri ajU;rw [e3]at hg Sb;obtain⟨t,ht,_⟩:=bE i r hri;obtain⟨t',ht',_⟩:=bE i' r' ajU;have:=mh.apart (i+eI) (i'+eI) t t' g ht ht' hg Sb;omega
 ·cases r' with
  | ag l =>
   obtain⟨us,h1,h2⟩:=JO;refine⟨us,h1,aN.bT h2.length fun i a b ha hb=>?_⟩;obtain⟨b',gC,q⟩:=h2.get ha;rw [hb]at gC;cases gC;have SM:aF a=true:=all_eq_true.1 hr a (mem_of_getElem? ha);refine back (tP SM) ?_;rw [qM SM];exact q
  | cW l =>
   obtain⟨us,h1,h2⟩:=JO;refine⟨us,h1,aN.bT h2.length fun i a b ha hb=>?_⟩;obtain⟨b',gC,q⟩:=h2.get ha;rw [hb]at gC;cases gC;have SM:aF a=true:=all_eq_true.1 hr a (mem_of_getElem? ha);refine back (tP SM) ?_;rw [qM SM];exact q
  | own=>simp [cB,aF]at hr
  | ptr=>simp [cB,aF]at hr
  | m7=>simp [cB,aF]at hr
  | lR=>simp [cB,aF]at hr
  | undef=>simp [cB,aF]at hr
  | _=>simp only [az]at JO |-;exact back trivial JO
theorem wT.XZ{o:Option (Nat × Nat)}{r:PV}(h:wT P g o args e n els gY r)(di:args.all cB=true)(hr:cB r=true)(hc:∀x∈els,∀p∈x,aF p=true)(uP:∀x∈gY,∀p∈x,aF p=true)
 {clk:Nat} (gq:rows id=some ⟨ver,e,n,els⟩):nV P g (Xy o id ver::args) rows clk (fun r' rows' bV=>r'=r∧rows'=dH rows id (some ⟨ver,e,n,gY⟩)∧bV=clk):=by
 refine⟨(h eI 0 (fun j=>if j=eI then some ⟨0,e,n,els⟩else none) 1 (Nat.le_refl _) (if_pos rfl) ar).1,fun w0 S0 c vs G hI hrw eB xK hG=>?_⟩;subst hrw;refine(h.frame di hr hc uP hI gq xK).mono ?_;rintro x w' ⟨v,c',rfl,rfl,h1,h2,h3,h4,h5⟩;exact⟨v,c',r,clk,rfl,rfl,h4,fun p hp=>h3 _ _ (hG p hp),⟨rfl,h1,rfl⟩,by rw [h2];exact eB,h5⟩
theorem uW(h:∀p∈core,aF p=true):∀x ∈ [core],∀p∈x,aF p=true:=fun x hx=>by rw [mem_singleton.1 hx];exact h
theorem yD.XZ{P:Program}{g:FuncId}{args:List PV}{e:TypeId}{n:Nat}{core fD:List PV}{r:PV}(h:yD P g args e n core fD r)(di:args.all cB=true)(hr:cB r=true)(hc:∀p∈core,aF p=true)(uP:∀p∈fD,aF p=true)
  {id ver:Nat} {rows:Rows} {clk:Nat} (gq:rows id=some ⟨ver,e,n,[core]⟩):nV P g (.ptr id ver 0 0::args) rows clk (fun r' rows' bV=>r'=r∧rows'=dH rows id (some ⟨ver,e,n,[fD]⟩)∧bV=clk):=
 h.x.XZ di hr (uW hc) (uW uP) gq
def Ac(E:Env):PV->Bool
 | .fn g []=>E.uN g
 | _=>false
def GH(E:Env)(p:PV)(dD:List PV)(rows:Rows)(v:PV)(u:Option (Nat × Row)):Prop:=
 match p,dD with
 | .fn g [],p0::rest=>∃o id ver,p0=Xy o id ver∧(rest.all cB=true∧cB v=true) ∧ ∃e n els gY,rows id=some ⟨ver,e,n,els⟩∧wT E.P g o rest e n els gY v∧(∀x∈els,∀p∈x,aF p=true)∧(∀x∈gY,∀p∈x,aF p=true)∧u=some (id,⟨ver,e,n,gY⟩)
 | _,_=>False
def X0(E:Env):PV->Bool
 | .fn g _=>E.writes g || E.uN g
 | .lR _ _ _=>true
 | _=>false
def jQ(P:Program)(g:FuncId)(dD:List PV)(rows:Rows)(clk:Nat)(K:PV->Rows->Nat->Prop):Prop:=
 ∃R,nV P g dD rows clk R ∧ ∀r rows' bV,R r rows' bV->K r rows' bV
def Eo(E:Env)(p:PV)(dD:List PV)(rows:Rows)(clk:Nat)(K:PV->Rows->Nat->Prop):Prop:=
 match p with
 | .fn g []=>jQ E.P g dD rows clk K
 | .lR g fs bF=>jQ E.P g (fs++dD++bF) rows clk K
 | _=>False
def SN(P:Program)(t:TypeId)(name:String)(f:FuncId):Prop:=
 ∀(g:Nat) (w:World),(method (P.types.size+Made.depth) t (.pointer (some ⟨g,0,none⟩)) name).run P w = .ok (f, .pointer (some ⟨g,0,none⟩)) w
def xN(E:Env)(f:PV)(args:List PV)(v:PV):Prop:=
 match f with
 | .fn g bF=>(args.all cB=true)∧Xr E.P g (args++bF) v
 | _=>False
def qP(rows:Rows)(y:PV)(l:List (List PV)):Prop:=
 match y with
 | .nil=>l = []
 | .sl k=>l=k
 | .iE k=>l=k
 | .own id ver off len=>∃r,rows id=some r∧r.ver=ver∧l=(r.els.drop off).take len
 | _=>False
def tv(t:TI)(rows:Rows)(x y v:PV)(u:Option (Nat × Row)):Prop:=
 match t,x with
 | .slice _ n _ _, .own id ver off len=>∃r,rows id=some r∧r.ver=ver∧r.size=n∧off+len<=r.els.length ∧ ∃l,qP rows y l∧(∀e∈l,e.length=n) ∧
   v = .int .i64 (min l.length len)∧u=some (id,{ r with els:=r.els.take off++l.take len++r.els.drop (off+min l.length len) })
 | _,_=>False
def ys(E:Env)(op:Op)(ρ:Operand->PV)(rows:Rows)(v:PV)(u:Option (Nat × Row)):Prop:=
 match op with
 | .call { callee:=.builtin .copy,args:=⟨[x,y]⟩,argTypes:=⟨[t,_]⟩ }=>tv (E.ty t) rows (ρ x) (ρ y) v u
 | .store t p x=>qL E t rows (ρ p) (ρ x) v u
 | .buildSlice t len parts=>JM (E.ty t) rows len (parts.toList.map fun x=>(x.1,ρ x.2)) v∧u=none
 | .call { callee:=.value f,args:=args,argTypes:=_ }=>if Ac E (ρ f)=true then GH E (ρ f) (args.toList.map fun x=>ρ x) rows v u else u=none∧xN E (ρ f) (args.toList.map fun x=>pz rows (ρ x)) v∧(args.toList.flatMap fun x=>dA (ρ x)) = []
 | op=>yv E op ρ rows v∧u=none
def dP(rows:Rows):Option (Nat × Row)->Rows
 | none=>rows
 | some (id,r)=>dH rows id (some r)
section
variable {E:Env} {c:Cx} {w0:World} {S0:dz}
theorem JQ(hI:Inv w0 S0 c){x:PV}{vp:Value}(hp:az c p vp)(hx:az c x vx)(h:qL E t c.rows p x v u) :
  v = .undef ∧ ∃w',(Instr.storeAt t vp vx).run E.P c.w = .ok () w'∧Inv w0 S0 { c with w:=w',rows:=dP c.rows u }∧so c { c with w:=w',rows:=dP c.rows u }:=by
 obtain⟨hk,rfl,h⟩:=h;refine⟨rfl,?_⟩
 split at h
 ·rename_i id ver i j;obtain⟨r,hr,iZ,el,mg,l,hl,i3,hlen,hjl,rfl⟩:=h;simp only [az,aB]at hp;obtain⟨g,n,cap,hβ,rfl⟩:=hp.2 r hr iZ;obtain⟨⟨xs,i0,fh,abu⟩,z8,hnS,jO⟩:=hI.row id r hr;obtain⟨qQ,JR⟩:=mv hx hl i3;have Gj:vx.cells.toList.length=l.length:=qQ.length.symm;have ajX:=i0;rw [hβ]at i0
  rcases i0.2 with ⟨h',_⟩ | ⟨g',jj,cur,h',Pf,hg,JG,Pe,z6,GI⟩
  ·simp at h'
  ·simp only [Value.slice.injEq,Option.some.injEq,Addr.mk.injEq,and_true]at h';obtain⟨rfl,rfl,rfl⟩:=h';have hi:i<r.els.length:=(List.getElem?_eq_some_iff.1 mg).1;have SO:el.length=r.size:=z8 el (mem_of_getElem? mg);have hmul:i*r.size+r.size<=r.els.length*r.size:=(by rw [<-Nat.succ_mul];exact Nat.mul_le_mul_right _ hi);have aul:r.els.length*r.size<=cap*r.size:=Nat.mul_le_mul_right _ JG;have ad1:i*r.size+j+l.length<=r.els.length*r.size:=aa;have g9:=run_storeCells_at E.P g (i*r.size+j) r.e vx.cells.toList 0 cur c.w hg (by rw [Gj];omega) JR;obtain⟨inf,_,R7,_,GC,_,_⟩:=((E.ok t).zero hk).ok;have gQ:(Instr.storeAt t (.pointer (some ⟨g,i*r.size+j,none⟩)) vx).run E.P c.w = .ok () (c.w.setRow g (cur.toList.take (i*r.size+j)++vx.cells.toList++cur.toList.drop (i*r.size+j+l.length)).toArray):=(by have mr:vx.cells.size=inf.size:=(by rw [GC,<-hlen,<-Gj];simp);simp only [Instr.storeAt,Instr.sureAddr,Sem.run_bind,Sem.run_pure,Result.andThen_ok,storeVar,c7 R7,mr];simp only [Nat.add_zero,Gj]at g9;simpa using g9);refine⟨_,gQ,?_⟩
   have SP:(c.w.setRow g (cur.toList.take (i*r.size+j)++vx.cells.toList++cur.toList.drop (i*r.size+j+l.length)).toArray).ownsRow w0.heap.size r.e r.size (c.β id) (r.els.set i (el.take j++l++el.drop (j+l.length))).length
     (xs.take (i*r.size+j)++vx.cells.toList++xs.drop (i*r.size+j+l.length)):=by
    rw [hβ,length_set]
    refine⟨?_, .inr ⟨g,cap,_,rfl,Pf,setRow_heap _ g cur _ r.e _ hg,JG,Pe,?_,?_⟩⟩
    ·have:=i0.1;simp [Gj];omega
    ·simp [Gj];omega
    ·rw [<-GI];have aqE:cur.toList.length=cap*r.size:=(by simp [z6]);simp only;rw [take_append,take_append];have e1:List.take (r.els.length*r.size) (cur.toList.take (i*r.size+j))=cur.toList.take (i*r.size+j):=(by rw [take_take,Nat.min_eq_right aa]);have e2:List.take (i*r.size+j) (cur.toList.take (r.els.length*r.size))=cur.toList.take (i*r.size+j):=(by rw [take_take,Nat.min_eq_left aa]);rw [e1,e2];have e3:(cur.toList.take (i*r.size+j)).length=i*r.size+j:=(by rw [length_take];omega);rw [e3];have e4:List.take (r.els.length*r.size-(i*r.size+j)) vx.cells.toList=vx.cells.toList:=take_of_length_le (by rw [Gj];omega);rw [e4];congr 1;rw [length_append,e3,Gj,drop_take]
   have Ad:aN (aB c) (r.els.set i (el.take j++l++el.drop (j+l.length))).flatten (xs.take (i*r.size+j)++vx.cells.toList++xs.drop (i*r.size+j+l.length)):=(by rw [xM z8 mg j l hjl];exact((fh.take _).append qQ).append (fh.drop _));have nW:c.w.grownBy (c.w.setRow g (cur.toList.take (i*r.size+j)++vx.cells.toList++cur.toList.drop (i*r.size+j+l.length)).toArray) (c.β id).ownBlock:=by rw [hβ];exact⟨rfl,rfl,rfl,av,fun k _ hk=>setRow_other _ g k _ (fun e=>hk (by simp [Value.ownBlock,e]))⟩
   exact hI.dH (r':={ r with els:=r.els.set i (el.take j++l++el.drop (j+l.length)) }) hr nW SP Ad (by
    intro y hy;simp only [mem_append]at hy
    rcases hy with (hy | hy) | hy
    ·exact abu y (mem_of_mem_take hy)
    ·exact JR y hy
    ·exact abu y (mem_of_mem_drop hy)) (by
    intro e he
    rcases mem_or_eq_of_mem_set he with he | rfl
    ·exact z8 e he
    ·simp;omega) rfl rfl av
 ·exact h.elim
end
section
variable {E:Env} {c:Cx} {w0:World} {S0:dz}
theorem Ae{n:Nat}:∀(vs:List (Nat × Value)) (k:Nat) (cells:Array Value),(∀j x,vs[j]? = some x->x.1=k+j∧x.2.cells.size=n)->cells.size=(k+vs.length)*n ->
  ∃cU,Instr.fill (fun i=>some (i*n,n)) cells vs=some cU∧cU.toList=cells.toList.take (k*n)++vs.flatMap fun x=>x.2.cells.toList
 | [],k,cells,_,hs=>⟨cells,rfl,by simp at hs;rw [take_of_length_le (by simp [hs])];simp⟩
 | (i,v)::vs,k,cells,h,hs=>by
  obtain⟨h1,h2⟩:=h 0 (i,v) av;simp only [Nat.add_zero]at h1 h2;subst h1;have ad1:i*n+n<=cells.size:=by rw [hs,length_cons,<-Nat.succ_mul];exact Nat.mul_le_mul_right _ aa
  have Xx:v.cells.toList.zipIdx=v.cells.zipIdx.toList:=av;have CV:=oS (i*n) v.cells.toList 0 cells (by simp [h2];omega);have mr:(foldl (fun cs (x:Value × Nat)=>cs.setIfInBounds (i*n+x.2) x.1) cells v.cells.toList.zipIdx).size=cells.size:=by have:=congrArg List.length CV;simp only [Array.length_toList]at this;rw [this];simp [h2];omega
  obtain⟨cU,g1,g2⟩:=Ae vs (i+1) (foldl (fun cs (x:Value × Nat)=>cs.setIfInBounds (i*n+x.2) x.1) cells v.cells.toList.zipIdx)
   (fun j x hx=>by have:=h (j+1) x (au hx);exact⟨aa,this.2⟩) (by rw [mr,hs,length_cons];congr 1;omega)
  refine⟨cU,?_,?_⟩
  ·simp only [Instr.fill];rw [if_neg (by simp [h2];omega),<-g1,Xx,Array.foldl_toList]
  ·rw [g2,CV];have e1:(cells.toList.take (i*n+0)).length=i*n:=(by rw [length_take];simp;omega);have e2:v.cells.toList.length=n:=(by simp [h2]);rw [show(i+1)*n=i*n+n by rw [Nat.add_mul];omega];rw [take_append,length_append,e1,e2,Nat.sub_self,take_zero,append_nil,take_of_length_le (by rw [length_append,e1,e2];exact Nat.le_refl _)];simp [append_assoc]
theorem nX{n:Nat}:∀ {ps:List (Nat × PV)} {k:Nat} {els:List (List PV)},ig n k ps=some els->els.length=ps.length∧(∀e∈els,e.length=n) ∧ ∀j x,ps[j]? = some x->x.1=k+j ∧ ∃e,els[j]? = some e∧cD x.2=some e
 | [],k,els,h=>by simp [ig]at h;subst h;simp
 | (i,p)::ps,k,els,h=>by
  simp only [ig]at h
  split at h
  ·rename_i l hl
   split at h
   ·rename_i uQ;rw [Option.map_eq_some_iff]at h;obtain⟨gY,h1,rfl⟩:=h;obtain⟨g1,g2,g3⟩:=nX h1
    refine⟨by simp [g1],fun e he=>?_,fun j x hx=>?_⟩
    ·simp at he
     rcases he with rfl | he
     ·exact uQ.2
     ·exact g2 e he
    ·match j with
     | 0=>simp at hx;subst hx;exact⟨by simpa using uQ.1,l,av,hl⟩
     | j+1 =>
      obtain⟨q1,q2⟩:=g3 j x (au hx);exact⟨aa,au q2⟩
   ·cases h
  ·cases h
theorem Inv.aqF(hI:Inv w0 S0 c)(o:Obj):Inv w0 S0 { c with w:=c.w.alloc o,S:=fun b k=>c.S b k∨b=c.w.heap.size }∧so c { c with w:=c.w.alloc o,S:=fun b k=>c.S b k∨b=c.w.heap.size }:=by have:=hI.grow (w':=c.w.alloc o) (S':=fun b k=>c.S b k∨b=c.w.heap.size) ((Below.refl _ _).alloc (Nat.le_refl _) o) (fun _ _ h => .inl h) (fun b k h=>h.imp (fun h=>h) fun h=>by subst h;simp);exact this
theorem SR{v:Value}(hI:Inv w0 S0 c)(h:aB c p v)(s6:aL p = [])(tu:aF (fz c.rows p)=true):de c.S c.w (fz c.rows p) v:=by have:=Aa hI (ids:=[]) av h (by simp [s6]) tu;exact de.mono (fun b o h=>by rcases h with h | ⟨id,fp,_⟩;exact h;cases fp) (fun _ _ _=>rfl) _ _ this
theorem Af(hI:Inv w0 S0 c){bb len:Nat}(hE:E.ty t = .slice e n bb z){parts:Array (Nat × Operand)}{vρ:Operand->Value}(hρ:∀x,az c (ρ x) (vρ x))
 (z8:ig n 0 (parts.toList.map fun x=>(x.1,ρ x.2))=some els) (hlen:len=els.length) (hsm:len<=4096) (hn:n<=4096)
  (tu:∀e∈els,∀p∈e,aF (fz c.rows p)=true∧ib c.rows p) (s6:∀e∈els,∀p∈e,aL p = []) :
  ∃v' c',(Instr.buildSlice t len (parts.map fun(i,x)=>(i,vρ x))).run E.P c.w = .ok v' c'.w∧c'.rows=c.rows∧c'.used=c.used∧Inv w0 S0 c'∧so c c'∧az c' (.iE (els.map fun e=>e.map (fz c.rows))) v':=by
 obtain⟨hu,hnp,Ep,i,zv,hi,hz,hs,_,Em,_⟩:=fM hE;obtain⟨g1,g2,g3⟩:=nX z8;have MC:parts.size=els.length:=by rw [g1];simp
 have aqH:zv.cells.size=n:=by rw [<-Ep,<-Em];simp
 have CZ:∀j (x:Nat × Value),((parts.map fun(i,x)=>(i,vρ x)).toList)[j]? = some x->x.1=0+j ∧ ∃e,els[j]? = some e∧aN (aB c) e x.2.cells.toList ∧ ∀u∈x.2.cells.toList,u.oneCell'=true:=by intro j x hx;simp at hx;obtain⟨a,b,fm,rfl⟩:=hx;obtain⟨q1,e,q2,q3⟩:=g3 j (a,ρ b) (by simp;exact⟨a,b,fm,rfl,rfl⟩);have q4:=mv (hρ b) q3 (fun q hq=>(tu e (mem_of_getElem? q2) q hq).2);exact⟨q1,e,q2,q4.1,q4.2⟩
 obtain⟨cU,f1,f2⟩:=Ae (n:=n) (parts.map fun(i,x)=>(i,vρ x)).toList 0 ((Array.range (len*n)).map (zv.cells[· % zv.cells.size]!)) (fun j x hx=>by obtain⟨q1,e,q2,q3,_⟩:=CZ j x hx;refine⟨q1,?_⟩;have:=q3.length;rw [g2 e (mem_of_getElem? q2)]at this;simpa using this.symm) (by simp [MC,hlen]);simp only [Nat.zero_mul,take_zero,nil_append]at f2
 have gQ:(Instr.buildSlice t len (parts.map fun(i,x)=>(i,vρ x))).run E.P c.w = .ok (.slice (some ⟨c.w.heap.size,0,none⟩) len len) (c.w.alloc (.cells cU e)):=by
  have hbound:¬(16777216<len*n):=by have:len*n<=4096*4096:=Nat.mul_le_mul hsm hn;omega
  by_cases h0:len*n=0
  ·have uI:len=0:=by
    rcases Nat.mul_eq_zero.1 h0 with h | h
    ·exact h
    ·omega
   have Pk:parts = #[]:=Array.eq_empty_of_size_eq_zero aa;subst Pk;subst uI;simp [Instr.fill]at f1;subst f1;have oq:Array.range 0 = #[]:=rfl;simp [Instr.buildSlice,run_underlying hu,c7 hi,newRow,Instr.fill,oq]
  ·have f1':Instr.fill (fun i=>some (i*n,n)) ((Array.range (len*n)).map (zv.cells[· % zv.cells.size]!)) (parts.toList.map fun x=>(x.1,vρ x.2))=some cU:=au f1;simp only [Instr.buildSlice,Sem.run_bind,run_underlying hu,Result.andThen_ok,c7 hi,hs];simp [h0,hbound,newRow,zeroValue,typeInfo,hi,hz,f1']
 obtain⟨mh,hA⟩:=hI.aqF (.cells cU e);refine⟨_,{ c with w:=c.w.alloc (.cells cU e),S:=fun b k=>c.S b k∨b=c.w.heap.size },gQ,rfl,rfl,mh,hA,?_⟩;simp only [az,aB,de];refine⟨some ⟨c.w.heap.size,0,none⟩,by rw [length_map,hlen],by rw [length_map,<-hlen];simp [maxLen];omega, .inr ⟨_,_,rfl,?_⟩⟩;refine ot (n:=n) (by intro e' oU;simp at oU;obtain⟨e1,GJ,rfl⟩:=oU;simpa using g2 e1 GJ) fun k el hk=>?_;simp at hk;obtain⟨e1,GJ,rfl⟩:=hk;refine ju fun j p hj=>?_;simp at hj;obtain⟨q,hq,rfl⟩:=hj;have hkl:k<els.length:=(List.getElem?_eq_some_iff.1 GJ).1;obtain⟨x,hx⟩:∃x,((parts.map fun(i,x)=>(i,vρ x)).toList)[k]? = some x:=⟨_,getElem?_eq_getElem (by simp;omega)⟩
 obtain⟨_,e2,q2,q3,q4⟩:=CZ k x hx;rw [GJ]at q2;cases q2;obtain⟨u,hu1,X1⟩:=q3.get hq
 have ajZ:cU.toList[k*n+j]? = some u:=by
  have e3:cU.toList=((parts.map fun(i,x)=>(i,vρ x)).toList.map fun x=>x.2.cells.toList).flatten:=by rw [f2,flatMap_def]
  rw [e3];refine jv (n:=n) (fun e he=>?_) (i:=k) (e:=x.2.cells.toList) (by rw [getElem?_map,hx];rfl) hu1;simp only [mem_map]at he;obtain⟨y,hy,rfl⟩:=he;obtain⟨k',wE⟩:=getElem?_of_mem hy;obtain⟨_,e4,q5,q6,_⟩:=CZ k' y wE;rw [<-q6.length];exact g2 e4 (mem_of_getElem? q5)
 refine⟨u,?_, .inr rfl,q4 u (mem_of_getElem? hu1),?_⟩
 ·have:=heap_alloc_new c.w (.cells cU e);rw [cell_of_row _ _ _ _ _ _ this];simpa using ajZ
 ·exact de.mono hA.S hA.w _ _ (SR hI X1 (s6 e1 (mem_of_getElem? GJ) q (mem_of_getElem? hq)) (tu e1 (mem_of_getElem? GJ) q (mem_of_getElem? hq)).1)
end
section
variable {E:Env} {c:Cx} {w0:World} {S0:dz}
theorem gb{fn:Func}{b:Code}(h1:P.funcs[g]? = some fn)(h2:fn.body=some b) (h3:(fn.name == "runtime.NumGoroutine") = false) (args:Array Value) (w:World) :
  (callFunc g args).run P w = .ok (.enter g args) w:=by
 simp only [callFunc,Sem.run_bind,program,Sem.run,Result.andThen_ok,h1,h2,h3];simp
theorem xO(hI:Inv w0 S0 c)(hp:∀id∈ids,∀r,c.rows id=some r -> ∀e∈r.els,∀p∈e,aF p=true){pf:PV}{vf:Value}{MD:List PV}{xP:List Value}
  (hf:az c pf vf) (di:aN (az c) MD xP) (s6:∀p∈MD,∀id∈dA p,id∈ids) (h:xN E pf (MD.map (pz c.rows)) v) {K:Value->World->Prop}
  (hK:∀v' c',c'.rows=CY c.rows ids->c'.used=c.used->so c c'->Inv w0 S0 c'->az c' v v'->K v' c'.w) :
  ∃g cs,vf = .func (.func g) #[] cs∧(callFunc g (xP.toArray++cs)).run E.P c.w = .ok (.enter g (xP.toArray++cs)) c.w ∧
   Calls E.P g (xP.toArray++cs) c.w fun e w'=>∃v',e = .returned v'∧K v' w':=by
 unfold xN at h
 split at h
 ·rename_i g bF;obtain⟨tx,⟨fn,b,h1,h2,h3⟩,Ag⟩:=h;simp only [az,aB,de]at hf;obtain⟨cs,rfl,z6⟩:=hf;refine⟨g,cs.toArray,rfl,gb h1 h2 h3 _ _,?_⟩;have Gl:=hI.freeze ids;have bZ:∀b o,JL c ids b o->b<c.w.heap.size:=fun b o hb=>Gl.lt (c:=B7 c ids) hb
  have fh:bO (JL c ids) c.w (MD.map (pz c.rows)++bF) (xP++cs):=by
   refine cI.2 (aN.append (aN.bT (by simp [di.length]) fun k p u lU hu=>?_) ?_)
   ·simp at lU;obtain⟨q,hq,rfl⟩:=lU;obtain⟨u',g1,g2⟩:=di.get hq;rw [hu]at g1;cases g1;exact En hI hp g2 (s6 q (mem_of_getElem? hq)) (all_eq_true.1 tx _ (by simp;exact⟨q,mem_of_getElem? hq,rfl⟩))
   ·exact(cI.1 z6).mono fun a b fm=>de.mono (fun _ _ h => .inl h) (fun _ _ _=>rfl) a b fm
  have:=Ag c.w (JL c ids) (xP++cs) bZ fh;rw [show(xP++cs).toArray=xP.toArray++cs.toArray by simp]at this;refine this.mono ?_;rintro e w' ⟨v',rfl,hb,S',g1,g2,g3⟩;refine⟨v',rfl,?_⟩;obtain⟨Xz,hA2⟩:=Gl.grow (c:=B7 c ids) hb g1 g2;have hA:so c { B7 c ids with S:=S',w:=w' }:=by have hA1:=jf c ids;exact⟨fun b o h=>g1 b o (hA1.S b o h),fun b o h=>(hA2.w b o (hA1.S b o h)).trans (hA1.w b o h),fun _ h=>h,hA1.rows⟩
  exact hK v' { B7 c ids with S:=S',w:=w' } rfl rfl hA Xz (az.ia g3)
 ·exact h.elim
structure ou(w0:World)(S0:dz)(n:Nat)(G:Gs)(U:Nat->Prop)(f:Nat->PV)(rows:Rows)(a:Act)(w:World):Prop where
 ex:∃c:Cx,c.w=w∧c.rows=rows∧(∀v,c.used v->U v)∧Inv w0 S0 c∧(∀s,az c (f s) (a.tmps.getD s undef)) ∧ ∀p∈G,az c p.1 p.2
 size:a.tmps.size=n
 defers:a.defers = []
abbrev Rel(w0:World)(S0:dz)(n:Nat)(G:Gs)(σ:PS)(a:Act)(w:World):Prop:=ou w0 S0 n G (fun v=>v<σ.clock) σ.f σ.rows a w
theorem ou.mono{w0:World}{S0:dz}{U':Nat->Prop}(hU:∀v,U v->U' v)(h:ou w0 S0 n G U f rows a w):ou w0 S0 n G U' f rows a w:=by obtain⟨⟨c,h1,h2,h3,h4⟩,h5,h6⟩:=h;exact⟨⟨c,h1,h2,fun v hv=>hU v (h3 v hv),h4⟩,h5,h6⟩
theorem Pn(hf:∀s,az c (f s) (a.tmps.getD s undef))(hG:∀p∈G,az c p.1 p.2)(hn:a.tmps.size=n)(eW:a.defers = [])
  (hA:∀p v,az c p v->az c' p v) (hI:Inv w0 S0 c') (hv:az c' v v') (hd:∀t,d=some t->t<n) (h1:f'=put f d v) (h2:rows=c'.rows) (h3:∀v,c'.used v->U v):ou w0 S0 n G U f' rows (a.put d v') c'.w:=by
 refine⟨⟨c',rfl,h2.symm,h3,hI,fun s=>?_,fun p hp=>hA _ _ (hG p hp)⟩,?_,?_⟩
 ·rw [h1];cases d with
  | none=>exact hA _ _ (hf s)
  | some t =>
   simp only [put,Act.put]
   by_cases hs:s=t
   ·subst hs;have:s<a.tmps.size:=(by rw [hn];exact hd s rfl);simpa [this]using hv
   ·rw [if_neg hs];have:=hA _ _ (hf s);simpa [Array.getElem?_setIfInBounds_ne (Ne.symm hs)]using this
 ·cases d<;>simp [Act.put,hn]
 ·cases d<;>simp [Act.put,eW]
theorem qR(hf:∀s,az c (f s) (a.tmps.getD s undef))(hG:∀p∈G,az c p.1 p.2)(hn:a.tmps.size=n)(eW:a.defers = [])
  (hA:so c c') (hI:Inv w0 S0 c') (hv:az c' v v') (hd:∀t,d=some t->t<n) (h1:f'=put f d v) (h2:rows=c'.rows) (h3:∀v,c'.used v->U v):ou w0 S0 n G U f' rows (a.put d v') c'.w:=by
 refine⟨⟨c',rfl,h2.symm,h3,hI,fun s=>?_,fun p hp=>az.pM hA _ _ (hG p hp)⟩,?_,?_⟩
 ·rw [h1];cases d with
  | none=>exact az.pM hA _ _ (hf s)
  | some t =>
   simp only [put,Act.put]
   by_cases hs:s=t
   ·subst hs;have:s<a.tmps.size:=(by rw [hn];exact hd s rfl);simpa [this]using hv
   ·rw [if_neg hs];have:=az.pM hA _ _ (hf s);simpa [Array.getElem?_setIfInBounds_ne (Ne.symm hs)]using this
 ·cases d<;>simp [Act.put,hn]
 ·cases d<;>simp [Act.put,eW]
theorem oV(hf:∀s,az c (f s) (a.tmps.getD s undef))(hG:∀p∈G,az c p.1 p.2)(hn:a.tmps.size=n)(eW:a.defers = [])
  (hA:so c c') (hI:Inv w0 S0 c') (hv:az c' v v') (hd:∀t,d=some t->t<n) (h1:σ.f=put f d v) (h2:σ.rows=c'.rows) (h3:∀v,c'.used v->v<σ.clock):Rel w0 S0 n G σ (a.put d v') c'.w:=
 qR hf hG hn eW hA hI hv hd h1 h2 h3
theorem uX(hf:∀s,az c' (f s) (a.tmps.getD s undef))(hG:∀p∈G,az c' p.1 p.2)(hn:a.tmps.size=n)(eW:a.defers = [])
  (hI:Inv w0 S0 c') (hv:az c' v v') (hd:∀t,d=some t->t<n) (h1:σ.f=put f d v) (h2:σ.rows=c'.rows) (h3:∀v,c'.used v->v<σ.clock):Rel w0 S0 n G σ (a.put d v') c'.w:=
 oV hf hG hn eW (so.refl c') hI hv hd h1 h2 h3
theorem ov{α:Type}{n:Nat}:∀ {l:List (List α)},(∀e∈l,e.length=n) -> ∀k,(l.take k).flatten=l.flatten.take (k*n)∧(l.drop k).flatten=l.flatten.drop (k*n)
 | [],_,k=>by simp
 | e::l,_,0=>by simp
 | e::l,h,k+1=>by
  have he:=h e av;have ih:=ov (l:=l) (fun e' oU=>h e' (mem_cons_of_mem _ oU)) k;have h1:(k+1)*n=e.length+k*n:=by rw [he,Nat.add_mul];omega
  simp only [take_succ_cons,drop_succ_cons,flatten_cons,h1,take_length_add_append,drop_length_add_append,ih.1,ih.2,and_self]
theorem tR(hI:Inv w0 S0 c)(hy:az c y vy)(h:qP c.rows y l)(hn:∀e∈l,e.length=n) :
  ∃A cap news,vy = .slice A l.length cap∧news.length=l.length*n∧aN (aB c) l.flatten news∧(∀u∈news,u.oneCell'=true)∧(A=none->l = []) ∧
   ∀a,A=some a -> ∀j u,news[j]? = some u->c.w.cell? (a.add j)=some u:=by
 have fl:∀ {l:List (List PV)},(∀e∈l,e.length=n)->l.flatten.length=l.length*n:=by
  intro l
  induction l with
  | nil=>intro _;simp
  | cons e l ih=>intro h;rw [flatten_cons,length_append,ih (fun e he=>h e (by simp [he])),h e av,length_cons,Nat.add_mul];omega
 have at_:∀(g o cap:Nat),vy = .slice (some ⟨g,o,none⟩) l.length cap ->
   (∀k e,l[k]? = some e -> ∀j p,e[j]? = some p -> ∃v,c.w.cell? ⟨g,o+(k*n+j),none⟩=some v∧v.oneCell'=true∧aB c p v) -> ∃A cap news,vy = .slice A l.length cap∧news.length=l.length*n∧aN (aB c) l.flatten news∧(∀u∈news,u.oneCell'=true)∧(A=none->l = []) ∧
   ∀a,A=some a -> ∀j u,news[j]? = some u->c.w.cell? (a.add j)=some u:=by
  intro g o cap hv hc
  have cellAt:∀k,k<l.length*n -> ∃p v,l.flatten[k]? = some p∧c.w.cell? ⟨g,o+k,none⟩=some v∧v.oneCell'=true∧aB c p v:=by
   intro k hk
   have SS:0<n:=by
    rcases Nat.eq_zero_or_pos n with h | h
    ·subst h;simp at hk
    ·exact h
   have hq:k/n<l.length:=(Nat.div_lt_iff_lt_mul SS).2 hk;have he:=hn l[k/n] (getElem_mem hq);have hj:k%n<l[k/n].length:=(by rw [he];exact Nat.mod_lt _ SS);have ME:k/n*n+k%n=k:=(by rw [Nat.mul_comm];exact Nat.div_add_mod k n);obtain⟨v,h1,h2,h3⟩:=hc (k/n) _ (getElem?_eq_getElem hq) (k%n) _ (getElem?_eq_getElem hj);rw [ME]at h1;have:=jv hn (getElem?_eq_getElem hq) (getElem?_eq_getElem hj);rw [ME]at this;exact⟨_,v,this,h1,h2,h3⟩
  have X3:((List.range (l.length*n)).map fun k=>(c.w.cell? ⟨g,o+k,none⟩).getD undef).length=l.length*n:=av;have SB:∀k u,((List.range (l.length*n)).map fun k=>(c.w.cell? ⟨g,o+k,none⟩).getD undef)[k]? = some u->k<l.length*n ∧ ∃p,l.flatten[k]? = some p∧c.w.cell? ⟨g,o+k,none⟩=some u∧u.oneCell'=true∧aB c p u:=by intro k u hu;have hk:k<l.length*n:=(by rw [<-X3];exact(List.getElem?_eq_some_iff.1 hu).1);obtain⟨p,v,h1,h2,h3,h4⟩:=cellAt k hk;rw [getElem?_map,getElem?_range hk]at hu;simp only [Option.map_some,h2,Option.getD_some,Option.some.injEq]at hu;subst hu;exact⟨hk,p,h1,h2,h3,h4⟩
  refine⟨some ⟨g,o,none⟩,cap,_,hv,X3,aN.bT (by rw [X3,fl hn]) fun k p u hp hu=>?_,fun u hu=>?_,av,fun a ha j u hu=>?_⟩
  ·obtain⟨_,p',h1,_,_,h4⟩:=SB k u hu;rw [hp]at h1;cases h1;exact h4
  ·obtain⟨k,hk⟩:=getElem?_of_mem hu;exact(SB k u hk).2.choose_spec.2.2.1
  ·cases ha;rw [iY];exact(SB j u hu).2.choose_spec.2.1
 have empty:∀A cap,vy = .slice A l.length cap->l = [] -> ∃A cap news,vy = .slice A l.length cap∧news.length=l.length*n∧aN (aB c) l.flatten news∧(∀u∈news,u.oneCell'=true)∧(A=none->l = []) ∧
   ∀a,A=some a -> ∀j u,news[j]? = some u->c.w.cell? (a.add j)=some u:=by
  rintro A cap hv rfl;exact⟨A,cap,[],hv,av,trivial,av,av,av⟩
 unfold qP at h
 split at h
 ·subst h;simp only [az,aB,de]at hy;exact empty none 0 (by rw [hy];rfl) rfl
 ·subst h;simp only [az,aB,de]at hy;obtain⟨A,cap,rfl,_,_,hh⟩:=hy
  rcases hh with hh | ⟨g,o,rfl,hr⟩
  ·exact empty A cap rfl hh
  ·refine at_ g o cap rfl fun k e hk j p hj=>?_;obtain⟨v,h1,_,h3,h4⟩:=iF (ji hr hn hk) hj;exact⟨v,by rw [<-Nat.add_assoc];exact h1,h3,aB.ia h4⟩
 ·subst h;simp only [az,aB,de]at hy;obtain⟨A,rfl,_,hh⟩:=hy
  rcases hh with hh | ⟨g,o,rfl,hr⟩
  ·exact empty A _ rfl hh
  ·refine at_ g o _ rfl fun k e hk j p hj=>?_;obtain⟨v,h1,_,h3,h4⟩:=iF (ji hr hn hk) hj;exact⟨v,by rw [<-Nat.add_assoc];exact h1,h3,aB.ia h4⟩
 ·rename_i id ver off len;obtain⟨r,hr,iZ,rfl⟩:=h;simp only [az,aB]at hy;obtain⟨hle,hy⟩:=hy.2 r hr iZ;have yT:((r.els.drop off).take len).length=len:=by simp;omega
  rw [<-yT]at hy
  have mr:∀k e,((r.els.drop off).take len)[k]? = some e->r.els[off+k]? = some e∧r.size=n:=by
   intro k e hk;have wE:=hk;rw [getElem?_take]at hk
   split at hk
   ·rw [getElem?_drop]at hk;refine⟨hk,?_⟩;rw [<-hn e (mem_of_getElem? wE)];exact((hI.row id r hr).len e (mem_of_getElem? hk)).symm
   ·cases hk
  rcases hy with ⟨h0,A,m,cap,hβ,rfl⟩ | ⟨jO,g,m,cap,A,hβ,hoc,rfl,ha⟩
  ·subst h0
   rcases Nat.eq_zero_or_pos len with h0 | h0
   ·exact empty A cap rfl (eq_nil_of_length_eq_zero (by rw [yT];exact h0))
   ·obtain⟨g,jj,qK⟩:=qJ hI hr aa;rw [hβ]at qK;simp only [Value.slice.injEq]at qK;obtain⟨rfl,rfl,rfl⟩:=qK;refine at_ g 0 _ rfl fun k e hk j p hj=>?_;obtain⟨hk2,hs⟩:=mr k e hk;have:=uO hI hr hβ hk2 hj;rw [hs]at this;simpa using this
  ·rcases ha with ha | rfl
   ·exact empty _ _ rfl (eq_nil_of_length_eq_zero ha)
   ·refine at_ g _ _ rfl fun k e hk j p hj=>?_;obtain⟨hk2,hs⟩:=mr k e hk;have:=uO hI hr hβ hk2 hj;rw [hs]at this |-;rw [show off*n+(k*n+j)=(off+k)*n+j by rw [Nat.add_mul];omega];exact this
 ·exact h.elim
end
section
variable {E:Env} {c:Cx} {w0:World} {S0:dz}
theorem Er(w:World)(dT sT ty elem:TypeId)(sz g o ad2 ad3:Nat)(A:Option Addr)(JS ad4:Nat)(cur:Array Value)(t:TypeId)(cs:List Value)
  (hu:P.underlying dT=some (.slice elem)) (hs:(P.info? elem).map (·.size)=some sz)
  (hg:w.heap[g]? = some (.cells cur t (0,0))) (hn:cs.length=Nat.min JS ad2*sz)
  (aqJ:∀a,A=some a -> ∀j v,cs[j]? = some v->w.cell? (a.add j)=some v) (hA:A=none->cs = []) (ad1:o+cs.length<=cur.size) (h1:∀v∈cs,v.oneCell'=true) :
  (Builtin.copy_ #[dT,sT] ty #[.slice (some ⟨g,o,none⟩) ad2 ad3, .slice A JS ad4]).run P w =
   .ok (goInt (Nat.min JS ad2:Nat)) (w.setRow g (cur.toList.take o++cs++cur.toList.drop (o+cs.length)).toArray):=by
 cases hq:P.info? elem with
 | none=>simp [hq]at hs
 | some i =>
  have hi:i.size=sz:=by simpa [hq]using hs
  cases A with
  | some a =>
   have hl:=run_loadCells_list (P:=P) w a cs (aqJ a rfl);have g9:=run_storeCells_at P g o t cs 0 cur w hg (au ad1) h1;simp [Builtin.copy_,run_underlying hu,Builtin.lenOf,Builtin.firstCells,Go.sizeOf,typeInfo,hq,hi,<-hn,hl,g9]
  | none =>
   have:=hA rfl;subst this;have aj0:=setRow_self w g cur t (0,0) hg;simp [Builtin.copy_,run_underlying hu,Builtin.lenOf,Builtin.firstCells,Go.sizeOf,typeInfo,hq,storeCells,take_append_drop,aj0]
theorem Cj(w:World)(dT sT ty elem:TypeId)(D:Option Addr)(ad3:Nat)(A:Option Addr)(JS ad4 sz:Nat)
  (hu:P.underlying dT=some (.slice elem)) (hs:(P.info? elem).map (·.size)=some sz) :
  (Builtin.copy_ #[dT,sT] ty #[.slice D 0 ad3, .slice A JS ad4]).run P w = .ok (goInt (0:Nat)) w:=by
 cases hq:P.info? elem with
 | none=>simp [hq]at hs
 | some i=>cases A<;>cases D<;>simp [Builtin.copy_,run_underlying hu,Builtin.lenOf,Builtin.firstCells,Go.sizeOf,typeInfo,hq,storeCells,loadCells,loadCellsFrom,show Nat.min JS 0=0 from Nat.min_zero JS]
theorem Pp(hI:Inv w0 S0 c){type:TypeId}{x:PV}(hx:az c x vx)(hy:az c y vy)(h:tv (E.ty t) c.rows x y v u) :
  ∃v' c',(Builtin.copy_ #[t,t2] type #[vx,vy]).run E.P c.w = .ok v' c'.w∧c'.rows=dP c.rows u∧c'.used=c.used∧so c c'∧Inv w0 S0 c'∧az c' v v':=by
 unfold tv at h
 split at h
 ·rename_i e sz b z id ver off len hE;obtain⟨r,qO,iZ,mr,hle,l,hl,MF,rfl,rfl⟩:=h;have gx:=hx;simp only [az,aB]at gx;obtain⟨_,gx⟩:=gx.2 r qO iZ;obtain⟨hu,jO,Ep,i,zv,hi,hz,hs,hby,Em,hzo⟩:=fM hE;obtain⟨A,cap,news,hvy,g1,g2,g3,g4,g5⟩:=tR hI hy hl MF
  by_cases uY:len=0
  ·-- nothing
   subst uY
   obtain⟨D,JT,X4⟩:∃D JT,vx = .slice D 0 JT:=by
    rcases gx with ⟨h0,A',m,X5,Es,hv⟩ | ⟨_,g2,m,X5,A',Es,_,hv,ha⟩
    ·exact⟨_,_,hv⟩
    ·exact⟨_,_,hv⟩
   have gQ:=Cj (P:=E.P) c.w t t2 type e D JT A l.length cap sz hu (by simp [hi,hs])
   have gq:dH c.rows id (some { r with els:=r.els.take off++l.take 0++r.els.drop (off+min l.length 0) })=c.rows:=by
    funext j;simp only [dH]
    split
    ·rename_i hj;subst hj;rw [qO];simp
    ·rfl
   refine⟨_,c,by rw [X4,hvy];exact gQ,?_,rfl,so.refl c,hI,cH.2 (by simp only [goInt];congr 1;omega)⟩;show c.rows=dH c.rows id _;rw [gq]
  have aj1:0<len:=aa;obtain⟨⟨xs,i0,fh,i3⟩,z8,hnS,_⟩:=hI.row id r qO;obtain⟨g,jj,hβ⟩:=qJ hI qO aa
  obtain⟨JT,X4⟩:∃JT,vx = .slice (some ⟨g,off*sz,none⟩) len JT:=by
   rcases gx with ⟨h0,A',m,X5,Es,hv⟩ | ⟨_,g2,m,X5,A',Es,_,hv,ha⟩
   ·rw [hβ]at Es;simp only [Value.slice.injEq]at Es;obtain⟨rfl,_,_⟩:=Es;exact⟨_,by rw [hv,h0,Nat.zero_mul]⟩
   ·rw [hβ]at Es;simp only [Value.slice.injEq,Option.some.injEq,Addr.mk.injEq,and_true]at Es;obtain⟨rfl,_,_⟩:=Es
    rcases ha with ha | ha
    ·omega
    ·exact⟨_,by rw [hv,ha,mr]⟩
  have ajX:=i0;rw [hβ]at i0
  rcases i0.2 with ⟨h',_⟩ | ⟨g',aj2,cur,h',Pf,hg,JG,Pe,z6,GI⟩
  ·simp at h'
  ·simp only [Value.slice.injEq,Option.some.injEq,Addr.mk.injEq,and_true]at h';obtain⟨rfl,_,rfl⟩:=h';rw [mr]at z6 GI;have X3:news.length=l.length*sz:=g1;have hml:Nat.min l.length len<=len:=Nat.min_le_right _ _
   have hmm:Nat.min l.length len*sz=Nat.min (l.length*sz) (len*sz):=by
    show min l.length len*sz=min (l.length*sz) (len*sz)
    rcases Nat.le_total l.length len with hq | hq
    ·rw [Nat.min_eq_left hq,Nat.min_eq_left (Nat.mul_le_mul_right _ hq)]
    ·rw [Nat.min_eq_right hq,Nat.min_eq_right (Nat.mul_le_mul_right _ hq)]
   have Et:(news.take (len*sz)).length=Nat.min l.length len*sz:=(by rw [length_take,X3,hmm];exact Nat.min_comm _ _);have GK:off*sz+len*sz<=r.els.length*sz:=(by rw [<-Nat.add_mul];exact Nat.mul_le_mul_right _ hle);have axe:r.els.length*sz<=jj*sz:=Nat.mul_le_mul_right _ JG;have axf:Nat.min l.length len*sz<=len*sz:=Nat.mul_le_mul_right _ hml
   have gQ:=Er (P:=E.P) c.w t t2 type e sz g (off*sz) len JT A l.length cap cur r.e (news.take (len*sz)) hu (by simp [hi,hs]) hg Et
    (fun ad had j v hj=>g5 ad had j v (by rw [getElem?_take]at hj;split at hj;exact hj;cases hj)) (fun hA=>by have:=g4 hA;subst this;have:news = []:=eq_nil_of_length_eq_zero (au X3);simp [this]) (by rw [Et];omega) (fun v hv=>g3 v (mem_of_mem_take hv))
   have MG:∀e∈r.els,e.length=sz:=fun e he=>by rw [z8 e he,mr]
   have abx:min l.length len=Nat.min l.length len:=rfl
   have SP:(c.w.setRow g (cur.toList.take (off*sz)++news.take (len*sz)++cur.toList.drop (off*sz+(news.take (len*sz)).length)).toArray).ownsRow w0.heap.size r.e r.size (c.β id) (r.els.take off++l.take len++r.els.drop (off+min l.length len)).length
     (xs.take (off*sz)++news.take (len*sz)++xs.drop (off*sz+(news.take (len*sz)).length)):=by
    have yT:(r.els.take off++l.take len++r.els.drop (off+min l.length len)).length=r.els.length:=(by simp;omega);have hxl:xs.length=r.els.length*sz:=(by rw [i0.1,mr]);rw [hβ,yT]
    refine⟨?_, .inr ⟨g,jj,_,rfl,Pf,setRow_heap _ g cur _ r.e _ hg,JG,Pe,?_,?_⟩⟩
    ·rw [mr,length_append,length_append,Et,length_take,length_drop];omega
    ·rw [mr,size_toArray,length_append,length_append,Et,length_take,length_drop,Array.length_toList];omega
    ·rw [mr,<-GI];have aqE:cur.toList.length=jj*sz:=(by simp [z6]);simp only;rw [take_append,take_append];have e1:List.take (r.els.length*sz) (cur.toList.take (off*sz))=cur.toList.take (off*sz):=(by rw [take_take,Nat.min_eq_right aa]);have e2:List.take (off*sz) (cur.toList.take (r.els.length*sz))=cur.toList.take (off*sz):=(by rw [take_take,Nat.min_eq_left aa]);rw [e1,e2];have e3:(cur.toList.take (off*sz)).length=off*sz:=(by rw [length_take];omega);have e4:List.take (r.els.length*sz-off*sz) (news.take (len*sz))=news.take (len*sz):=take_of_length_le (by rw [Et];omega);rw [e3,e4];congr 1;rw [length_append,e3,drop_take]
   have nW:c.w.grownBy (c.w.setRow g (cur.toList.take (off*sz)++news.take (len*sz)++cur.toList.drop (off*sz+(news.take (len*sz)).length)).toArray) (c.β id).ownBlock:=by rw [hβ];exact⟨rfl,rfl,rfl,av,fun k _ hk=>setRow_other _ g k _ (fun e=>hk (by simp [Value.ownBlock,e]))⟩
   obtain⟨mh,hA⟩:=hI.dH (r':={ r with els:=r.els.take off++l.take len++r.els.drop (off+min l.length len) }) qO nW SP (by
    show aN (aB c) (r.els.take off++l.take len++r.els.drop (off+min l.length len)).flatten _;rw [flatten_append,flatten_append,(ov MG off).1,(ov MF len).1,(ov MG _).2,Nat.add_mul,abx,<-Et];exact((fh.take _).append (g2.take _)).append (fh.drop _)) (by
    intro y' tz;simp only [mem_append]at tz
    rcases tz with (tz | tz) | tz
    ·exact i3 y' (mem_of_mem_take tz)
    ·exact g3 y' (mem_of_mem_take tz)
    ·exact i3 y' (mem_of_mem_drop tz)) (by
    intro e' oU;simp only [mem_append]at oU;rw [mr]
    rcases oU with (oU | oU) | oU
    ·exact MG e' (mem_of_mem_take oU)
    ·exact MF e' (mem_of_mem_take oU)
    ·exact MG e' (mem_of_mem_drop oU)) rfl rfl (by simp;omega)
   refine⟨goInt (Nat.min l.length len:Nat),_,?_,?_,?_,hA,mh,?_⟩
   ·rw [X4,hvy];exact gQ
   ·rfl
   ·rfl
   ·refine cH.2 ?_;rw [<-abx];simp only [goInt];congr 1;omega
 ·exact h.elim
theorem GL(hI:Inv w0 S0 c)(hf:∀s,az c (f s) (a.tmps.getD s undef))(h:ys E o.op (aJ f) c.rows v u)
  {K:Act->World->Prop}
  (hKT:∀v' c',c'.rows=dP c.rows u->c'.used=c.used->(∀p v,az c p v->az c' p v)->Inv w0 S0 c'->az c' v v'->K (a.put o.dst v') c'.w):o.wp E.P a c.w K Q:=by
 have hK:∀v' c',c'.rows=dP c.rows u->c'.used=c.used->so c c'->Inv w0 S0 c'->az c' v v'->K (a.put o.dst v') c'.w:=fun v' c' h1 h2 h3=>hKT v' c' h1 h2 (az.pM h3);have hρ:=lS hf;have plain:yv E o.op (aJ f) c.rows v∧u=none->o.wp E.P a c.w K Q:=by rintro⟨hv,rfl⟩;obtain⟨v',h1,h2⟩:=SJ hI hf hv;unfold Oper.wp;rw [h1];exact hK v' c rfl rfl (so.refl c) hI h2
 obtain⟨dst,op,type,pos,after,guard⟩:=o;simp only at h hK hKT plain;unfold ys at h
 split at h
 ·rename_i x y t t2;obtain⟨v',c',h1,h2,h3,h4,h5,h6⟩:=Pp (t2:=t2) (type:=type) hI (hρ x) (hρ y) h;unfold Oper.wp;have:(execOp a.eval { dst:=dst,op:=.call { callee:=.builtin .copy,args:=⟨[x,y]⟩,argTypes:=⟨[t,t2]⟩ },type:=type,pos:=pos,after:=after,guard:=guard }).run E.P c.w = .ok (.value v') c'.w:=by simp only [execOp,resolve,invoke,builtin,Sem.run_bind,Sem.run_pure,Result.andThen_ok,map_toArray,map_cons,map_nil,h1]
  rw [this];exact hK v' c' h2 h3 h4 h5 h6
 ·rename_i t p x;obtain⟨rfl,w',h1,h2,h3⟩:=JQ hI (hρ p) (hρ x) h;unfold Oper.wp;have:(execOp a.eval { dst:=dst,op:=.store t p x,type:=type,pos:=pos,after:=after,guard:=guard }).run E.P c.w = .ok .skip w':=by simp [execOp,h1]
  rw [this];exact hK undef { c with w:=w',rows:=dP c.rows u } rfl rfl h3 h2 (by simp [az,aB])
 ·rename_i t len parts;obtain⟨h,rfl⟩:=h;unfold JM at h
  split at h
  ·rename_i e n bb z hE;obtain⟨els,h1,h2,h3,h4,h5,h6,rfl⟩:=h;obtain⟨v',c',g1,g2,g3,g4,g5,g6⟩:=Af hI hE hρ h1 h2 h3 h4 h5 h6;unfold Oper.wp;have:(execOp a.eval { dst:=dst,op:=.buildSlice t len parts,type:=type,pos:=pos,after:=after,guard:=guard }).run E.P c.w = .ok (.value v') c'.w:=(by simp only [execOp,Sem.run_bind,g1,Result.andThen_ok,Sem.run_pure]);rw [this];exact hK v' c' g2 g3 g5 g4 g6
  ·exact h.elim
 ·rename_i fo args ts;have di:aN (az c) (args.toList.map fun x=>aJ f x) (args.map a.eval).toList:=by refine aN.bT av fun k p u hp hu=>?_;simp at hp hu;obtain⟨x,hx,rfl⟩:=hp;obtain⟨y,hy,rfl⟩:=hu;rw [hx]at hy;cases hy;exact hρ x
  by_cases hm:Ac E (aJ f fo)=true
  ·rw [if_pos hm]at h;unfold GH at h
   split at h
   ·rename_i g p0 rest aj3 aqL;obtain⟨o,id,ver,rfl,⟨hp,hpv⟩,e,n,core,fD,gq,hM,hc,uP,rfl⟩:=h;rw [aqL]at di;have Ev:=hρ fo;rw [aj3]at Ev;simp only [az,aB,de]at Ev;obtain⟨cs,X6,z6⟩:=Ev;simp only [bO]at z6;subst z6;obtain⟨fn,b,h1,h2,h3⟩:=(hM eI 0 (fun j=>if j=eI then some ⟨0,e,n,core⟩else none) 1 (Nat.le_refl _) (if_pos rfl) ar).1;have iL:=hM.frame hp hpv hc uP hI gq di;unfold Oper.wp;have gQ:(execOp a.eval { dst:=dst,op:=.call { callee:=.value fo,args:=args,argTypes:=ts },type:=type,pos:=pos,after:=after,guard:=guard }).run E.P c.w = .ok (.enter g (args.map a.eval)) c.w:=(by simp only [execOp,resolve,X6,Deferred.ofValue,Sem.run_bind,Sem.run_pure,Result.andThen_ok,invoke];simpa using gb h1 h2 h3 (args.map a.eval) c.w);rw [gQ];rw [Array.toArray_toList]at iL;refine iL.mono ?_;rintro x w' ⟨v',c',rfl,rfl,k1,k2,k3,k4,k5⟩;exact hKT v' c' k1 k2 k3 k4 k5
   ·exact h.elim
  rw [if_neg hm]at h;obtain⟨rfl,hc,s6⟩:=h;have uP:xN E (aJ f fo) ((args.toList.map fun x=>aJ f x).map (pz c.rows)) v:=by rw [map_map];exact hc
  obtain⟨g,cs,h1,h2,h3⟩:=xO hI (ids:=[]) av (hρ fo) di (by intro p hp id fp;simp at hp;obtain⟨x,hx,rfl⟩:=hp;have:id∈args.toList.flatMap fun x=>dA (aJ f x):=(by simp only [mem_flatMap];exact⟨x,au hx,fp⟩);rw [s6]at this;exact this) uP (K:=fun v' w'=>K (a.put dst v') w') (fun v' c' q1 q2 q3 q4 q5=>hK v' c' (by rw [q1];funext j;simp [CY,dP]) q2 q3 q4 q5);unfold Oper.wp;have gQ:(execOp a.eval { dst:=dst,op:=.call { callee:=.value fo,args:=args,argTypes:=ts },type:=type,pos:=pos,after:=after,guard:=guard }).run E.P c.w = .ok (.enter g (args.map a.eval++cs)) c.w:=by simp only [execOp,resolve,h1,Deferred.ofValue,Sem.run_bind,Sem.run_pure,Result.andThen_ok,invoke];simp only [Array.toArray_toList]at h2;simpa only [Array.empty_append]using h2
  rw [gQ];simp only [Array.toArray_toList]at h3;exact h3.mono fun e w' ⟨v',he,hk⟩=>by subst he;exact hk
 ·exact plain h
end
def room:Nat:=140737488355328
def eX(rows:Rows)(ids:List Nat):Prop:=∀id∈ids,∀r,rows id=some r -> ∀e∈r.els,∀p∈e,aF p=true
def Ew(K:PS->Prop)(σ:PS)(d:Option Tmp)(v:PV)(id:Nat)(e:TypeId)(n:Nat)(els:List (List PV)):Prop:=
 K ⟨put σ.f d v,dH σ.rows id (some ⟨σ.clock,e,n,els⟩),σ.clock+1⟩
def yU(E:Env)(o:Oper)(t:TypeId)(x y:PV)(K:PS->Prop)(σ:PS):Prop:=
 match E.ty t with
 | .slice e n b _ =>
  ∃l,qP σ.rows y l∧(∀e∈l,e.length=n) ∧
  match x with
  | .nil=>l.length<=room∧l.length*b<=room∧Ew K σ o.dst (.own (o.dst.getD 0) σ.clock 0 l.length) (o.dst.getD 0) e n l
  | .own id ver off len=>∃r,σ.rows id=some r∧r.ver=ver∧off=0∧len<=r.els.length∧r.e=e∧r.size=n∧len+l.length<=room∧(len+l.length)*b<=room ∧
    Ew K σ o.dst (.own id σ.clock 0 (len+l.length)) id e n (r.els.take len++l)
  | .iE l0=>(∀e∈l0,e.length=n)∧(∀e∈l,∀p∈e,aF p=true)∧l0.length+l.length<=room∧(l0.length+l.length)*b<=room∧K (σ.put o.dst (.sl (l0++l)))
  | _=>False
 | _=>False
def C0(K:Nat->(Nat->PV)->Rows->Prop)(ver:Nat)(f:Nat->PV)(rows:Rows)(d:Option Tmp)(v:PV)(id:Nat)(e:TypeId)(n:Nat)(els:List (List PV)):Prop:=
 K 1 (put f d v) (dH rows id (some ⟨ver,e,n,els⟩))
def ow(E:Env)(ver:Nat)(o:Oper)(t:TypeId)(x y:PV)(K:Nat->(Nat->PV)->Rows->Prop)(f:Nat->PV)(rows:Rows):Prop:=
 match E.ty t with
 | .slice e n b _ =>
  ∃l,qP rows y l∧(∀e∈l,e.length=n) ∧
  match x with
  | .nil=>l.length<=room∧l.length*b<=room∧C0 K ver f rows o.dst (.own (o.dst.getD 0) ver 0 l.length) (o.dst.getD 0) e n l
  | .own id aj4 off len=>∃r,rows id=some r∧r.ver=aj4∧off=0∧len<=r.els.length∧r.e=e∧r.size=n∧len+l.length<=room∧(len+l.length)*b<=room ∧
    C0 K ver f rows o.dst (.own id ver 0 (len+l.length)) id e n (r.els.take len++l)
  | .iE l0=>(∀e∈l0,e.length=n)∧(∀e∈l,∀p∈e,aF p=true)∧l0.length+l.length<=room∧(l0.length+l.length)*b<=room∧K 0 (put f o.dst (.sl (l0++l))) rows
  | _=>False
 | _=>False
def SU:TI->Bool
 | .slice .. => true
 | _=>false
def dJ(E:Env)(o:Oper)(K:PS->Prop)(σ:PS):Prop:=
 match o.op with
 | .alloc t=>(E.ty t).known=true∧Ew K σ o.dst (.ptr (o.dst.getD 0) σ.clock 0 0) (o.dst.getD 0) t (E.ty t).size [(E.ty t).zero]
 | .box t x=>(E.ty t).known=true ∧ ∃l,cD (aJ σ.f x)=some l∧(∀q∈l,ib σ.rows q)∧l.length=(E.ty t).size∧Ew K σ o.dst (.ptr (o.dst.getD 0) σ.clock 0 0) (o.dst.getD 0) t (E.ty t).size [l]
 | .makeSlice t l c =>
  match E.ty t,aJ σ.f l,aJ σ.f c with
  | .slice e n b z, .int _ x, .int _ y=>0<=x∧x<=y∧y.toNat<=room∧y.toNat*b<=room∧Ew K σ o.dst (.own (o.dst.getD 0) σ.clock 0 x.toNat) (o.dst.getD 0) e n (replicate x.toNat z)
  | _,_,_=>False
 | .call { callee:=.builtin .append,args:=⟨[x,y]⟩,argTypes:=⟨[t,t2]⟩ }=>(t2=t∨SU (E.ty t2)=true)∧yU E o t (aJ σ.f x) (aJ σ.f y) K σ
 | .call { callee:=.value f,args:=args,argTypes:=_ }=>if X0 E (aJ σ.f f)=true then Eo E (aJ σ.f f) (args.toList.map (aJ σ.f)) σ.rows σ.clock (fun v rows clk=>K ⟨put σ.f o.dst v,rows,clk⟩)
   else ∃v,xN E (aJ σ.f f) (args.toList.map fun x=>pz σ.rows (aJ σ.f x)) v∧eX σ.rows (args.toList.flatMap fun x=>dA (aJ σ.f x)) ∧
   K ⟨put σ.f o.dst v,CY σ.rows (args.toList.flatMap fun x=>dA (aJ σ.f x)),σ.clock⟩
 | .call { callee:=.invoke r name,args:=args,argTypes:=_ }=>∃t id ver g,aJ σ.f r = .m7 t id ver∧(∃r,σ.rows id=some r∧r.ver=ver)∧SN E.P t name g ∧
   jQ E.P g (.ptr id ver 0 0::args.toList.map (aJ σ.f)) σ.rows σ.clock (fun v rows clk=>K ⟨put σ.f o.dst v,rows,clk⟩)
 | .makeFunc (.func f) fs bF=>if E.uN f=true then((fs.toList.map (aJ σ.f)).all pO=true∧(bF.toList.map (aJ σ.f)).all pO=true)∧K ⟨put σ.f o.dst (.lR f (fs.toList.map (aJ σ.f)) (bF.toList.map (aJ σ.f))),σ.rows,σ.clock⟩
   else fs.toList = []∧(bF.toList.map fun x=>pz σ.rows (aJ σ.f x)).all cB=true∧eX σ.rows (bF.toList.flatMap fun x=>dA (aJ σ.f x)) ∧
   K ⟨put σ.f o.dst (.fn f (bF.toList.map fun x=>pz σ.rows (aJ σ.f x))),CY σ.rows (bF.toList.flatMap fun x=>dA (aJ σ.f x)),σ.clock⟩
 | _=>∃v u,ys E o.op (aJ σ.f) σ.rows v u∧K ⟨put σ.f o.dst v,dP σ.rows u,σ.clock⟩
def nY(E:Env)(ver:Nat)(o:Oper)(K:Nat->(Nat->PV)->Rows->Prop)(f:Nat->PV)(rows:Rows):Prop:=
 match o.op with
 | .alloc t=>(E.ty t).known=true∧C0 K ver f rows o.dst (.ptr (o.dst.getD 0) ver 0 0) (o.dst.getD 0) t (E.ty t).size [(E.ty t).zero]
 | .box t x=>(E.ty t).known=true ∧ ∃l,cD (aJ f x)=some l∧(∀q∈l,ib rows q)∧l.length=(E.ty t).size∧C0 K ver f rows o.dst (.ptr (o.dst.getD 0) ver 0 0) (o.dst.getD 0) t (E.ty t).size [l]
 | .makeSlice t l c =>
  match E.ty t,aJ f l,aJ f c with
  | .slice e n b z, .int _ x, .int _ y=>0<=x∧x<=y∧y.toNat<=room∧y.toNat*b<=room∧C0 K ver f rows o.dst (.own (o.dst.getD 0) ver 0 x.toNat) (o.dst.getD 0) e n (replicate x.toNat z)
  | _,_,_=>False
 | .call { callee:=.builtin .append,args:=⟨[x,y]⟩,argTypes:=⟨[t,t2]⟩ }=>(t2=t∨SU (E.ty t2)=true)∧ow E ver o t (aJ f x) (aJ f y) K f rows
 | _=>False
theorem uZ(h:n<=room):n<=maxLen:=by unfold room at h;simp only [maxLen];omega
theorem ki{α:Type}{z:List α}:∀ {x k:Nat} {a:α},(replicate x z).flatten[k]? = some a->z[k%z.length]? = some a
 | 0,k,a,h=>by simp at h
 | x+1,k,a,h=>by
  rw [replicate_succ,flatten_cons]at h
  rcases Nat.lt_or_ge k z.length with hk | hk
  ·rw [getElem?_append_left hk]at h;rw [Nat.mod_eq_of_lt hk];exact h
  ·rw [getElem?_append_right hk]at h;have:=ki h;rw [<-Nat.mod_eq_sub_mod hk]at this;exact this
section
variable {E:Env} {c:Cx} {w0:World} {S0:dz}
theorem wV(hI:Inv w0 S0 c)(eJ:¬c.used ver)(id:Nat)(e:TypeId)(size n cap:Nat)(els:List (List PV))(cells:Array Value)(hn:els.length=n)(JG:n<=cap)(Pe:cap<=maxLen)(mr:cells.size=cap*size)
  (fh:aN (aB c) els.flatten (cells.toList.take (n*size))) (i3:∀u∈cells.toList,u.oneCell'=true) (hlen:∀e∈els,e.length=size) (jO:0<size) :
  Inv w0 S0 { c with w:=c.w.alloc (.cells cells e),β:=dH c.β id (.slice (some ⟨c.w.heap.size,0,none⟩) n cap),rows:=dH c.rows id (some ⟨ver,e,size,els⟩),used:=fun v=>v=ver∨c.used v } ∧
  so c { c with w:=c.w.alloc (.cells cells e),β:=dH c.β id (.slice (some ⟨c.w.heap.size,0,none⟩) n cap),rows:=dH c.rows id (some ⟨ver,e,size,els⟩),used:=fun v=>v=ver∨c.used v }:=by
 refine hI.set (ob:=none) (r':=⟨ver,e,size,els⟩) (xs:=cells.toList.take (n*size)) (World.grownBy_alloc c.w _ none) av ?_ fh (fun x hx=>i3 x (mem_of_mem_take hx)) hlen jO ?_ eJ
 ·have hle:n*size<=cap*size:=Nat.mul_le_mul_right _ JG;refine⟨by simp [hn];omega, .inr ⟨c.w.heap.size,cap,cells,by simp [hn],hI.below.size,heap_alloc_new c.w _,by simp [hn];exact JG,Pe,mr,by simp [hn]⟩⟩
 ·intro g hg;simp [Value.ownBlock]at hg;exact .inr aa
theorem SV(h:lu E.P t n z):∃i v,E.P.info? t=some i∧i.zero=some v∧i.size=n∧aN (aB c) z v.cells.toList∧v.cells.size=n ∧ ∀u∈v.cells.toList,u.oneCell'=true:=by
 obtain⟨i,v,h1,h2,h3,h4,h5⟩:=h.ok;have hl:v.cells.size=n:=by rw [<-h.len,<-h4];simp
 refine⟨i,v,h1,h2,h3,?_,hl,fun u hu=>(Array.all_eq_true_iff_forall_mem.1 h5) u (au hu)⟩;rw [<-h4];refine aN.bT av fun k a b ha hb=>?_;simp at ha;obtain⟨u,hu,rfl⟩:=ha;have:v.cells.toList[k]? = some u:=au hu;rw [this]at hb;cases hb;exact kl _
theorem kV(hr:c'.rows id=some r)(hn:r.els.length=n)(hc:c'.used ver)(hβ:c'.β id = .slice A n cap):az c' (.own id ver 0 n) (.slice A n cap):=by simp only [az,aB];refine⟨hc,fun r' gI _=>?_⟩;rw [hr]at gI;cases gI;exact⟨aa, .inl ⟨by first | rfl | trivial,A,n,cap,hβ,rfl⟩⟩
theorem SW(hc:c'.used ver){g:Nat}(hβ:c'.β id = .slice (some ⟨g,0,none⟩) n cap):az c' (.ptr id ver 0 0) (.pointer (some ⟨g,0,none⟩)):=by simp only [az,aB];exact⟨⟨hc,rfl⟩,fun r' _ _=>⟨g,n,cap,hβ,av⟩⟩
theorem tA{z:Array Value}{N:Nat}(hk:k<N)(hz:0<z.size):(madeCells z N).toList[k]? = z.toList[k%z.size]? := by have hm:k%z.size<z.size:=Nat.mod_lt _ hz;simp [madeCells,hk,hm]
variable {n:Nat} {G:Gs}
theorem qS(hr:c.rows=rows)(eB:∀v,c.used v->U v)(hf:∀s,az c (f s) (a.tmps.getD s undef))(hG:∀p∈G,az c p.1 p.2)(hn:a.tmps.size=n)(eW:a.defers = [])
  {K:(Nat->PV)->Rows->Prop} {sz:Nat} (h:K (put f d v) (dH rows id (some ⟨ver,e,sz,els⟩))) {b':Value}
  (hI:Inv w0 S0 { c with w:=w',β:=dH c.β id b',rows:=dH c.rows id (some ⟨ver,e,sz,els⟩),used:=fun v=>v=ver∨c.used v })
  (hA:so c { c with w:=w',β:=dH c.β id b',rows:=dH c.rows id (some ⟨ver,e,sz,els⟩),used:=fun v=>v=ver∨c.used v })
  (hv:az { c with w:=w',β:=dH c.β id b',rows:=dH c.rows id (some ⟨ver,e,sz,els⟩),used:=fun v=>v=ver∨c.used v } v v') (hd:∀t,d=some t->t<n) :
  ∃f' rows',K f' rows'∧ou w0 S0 n G (fun v=>v=ver∨U v) f' rows' (a.put d v') w':=by
 refine⟨_,_,h,?_⟩;have:=qR (U:=fun v=>v=ver∨U v) (f':=put f d v) (rows:=dH rows id (some ⟨ver,e,sz,els⟩)) hf hG hn eW hA hI hv hd rfl (by simp [hr]) (fun v hv=>hv.imp (fun h=>h) (eB v));exact this
theorem JU(hI:Inv w0 S0 c)(hg:c.w.grownBy w' none){sz:Nat}(i0:w'.ownsRow c.w.heap.size e sz v' els.length xs)
  (fh:aN (de c.S c.w) els.flatten xs) (i3:∀u∈xs,u.oneCell'=true) (hlen:∀e∈els,e.length=sz) :
  ∃c',c'.w=w'∧c'.rows=c.rows∧c'.used=c.used∧Inv w0 S0 c'∧so c c'∧az c' (.sl els) v':=by
 have hb:Below c.w.heap.size c.w w':=⟨hg.os,hg.tape,hg.output,hg.size,fun k hk=>hg.block k hk av⟩
 obtain⟨mh,hA⟩:=hI.grow (S':=fun b o=>c.S b o∨(c.w.heap.size<=b∧b<w'.heap.size)) hb (fun _ _ h => .inl h) (fun _ _ h=>h);refine⟨{ c with S:=fun b o=>c.S b o∨(c.w.heap.size<=b∧b<w'.heap.size),w:=w' },rfl,rfl,rfl,mh,hA,?_⟩;simp only [az,aB,de]
 rcases i0.2 with ⟨rfl,h0⟩ | ⟨g,cap,cur,rfl,Pf,hh,JG,Pe,z6,GI⟩
 ·exact⟨none,0,by rw [h0],aa,by simp [maxLen], .inl (eq_nil_of_length_eq_zero h0)⟩
 ·refine⟨_,cap,rfl,JG,Pe, .inr ⟨g,0,rfl,ot hlen fun k el hk=>ju fun j p hj=>?_⟩⟩;have hf:=jv hlen hk hj;obtain⟨u,hu,hr⟩:=fh.get hf;have bZ:g<w'.heap.size:=(Array.getElem?_eq_some_iff.1 hh).1;have CX:=i0.cells (g:=g) rfl (k*sz+j) u hu;rw [iY]at CX;refine⟨u,?_, .inr ⟨Pf,bZ⟩,i3 u (mem_of_getElem? hu),de.mono hA.S hA.w _ _ hr⟩;rw [show 0+k*sz+j=0+(k*sz+j)by omega];exact CX
theorem SX{base e sz n:Nat}(h:w.ownsRow base e sz (.slice A n cap) n xs)(hk:k<=n):w.ownsRow base e sz (.slice A k cap) k (xs.take (k*sz)):=by
 have hle:k*sz<=n*sz:=Nat.mul_le_mul_right _ hk;refine⟨by rw [length_take,h.1];omega,?_⟩
 rcases h.2 with ⟨h1,h2⟩ | ⟨g,jj,cur,h1,h2,h3,h4,h5,h6,h7⟩
 ·simp only [Value.slice.injEq]at h1;obtain⟨rfl,_,rfl⟩:=h1;have wG:k=0:=aa;subst wG;exact .inl ⟨rfl,rfl⟩
 ·simp only [Value.slice.injEq]at h1;obtain⟨rfl,_,rfl⟩:=h1;refine .inr ⟨g,cap,cur,rfl,h2,h3,aa,h5,h6,?_⟩;rw [<-h7,take_take,Nat.min_eq_left hle]
theorem Pq{ty:TypeId}{e2:TypeId}{x y:Value}(hu:P.underlying t=some (.slice e))(X1:P.underlying t2=some (.slice e2)) :
  (Builtin.append_ #[t,t2] ty #[x,y]).run P w=(Builtin.append_ #[t,t] ty #[x,y]).run P w:=by
 unfold Builtin.append_;simp only [getElem?_toArray,getElem?_cons_zero,getElem?_cons_succ,Sem.run_bind,run_underlying hu,Result.andThen_ok];cases x<;>simp [run_underlying hu,run_underlying X1]
theorem X7{E:Env}(h:SU (E.ty t2)=true):∃e,E.P.underlying t2=some (.slice e):=by
 cases hE:E.ty t2 with
 | slice e n b z=>exact⟨e,(fM hE).1⟩
 | _=>rw [hE]at h;cases h
theorem Ah(eJ:¬U ver){x y:Operand}(hop:o.op = .call { callee:=.builtin .append,args:=⟨[x,y]⟩,argTypes:=⟨[t,t2]⟩ })(X8:t2=t∨SU (E.ty t2)=true)
  (hI:Inv w0 S0 c) (hr:c.rows=rows) (eB:∀v,c.used v->U v) (hf:∀s,az c (f s) (a.tmps.getD s undef)) (hG:∀p∈G,az c p.1 p.2) (hn:a.tmps.size=n) (eW:a.defers = [])
  (hd:∀t,o.dst=some t->t<n) {K:Nat->(Nat->PV)->Rows->Prop} (h:ow E ver o t (aJ f x) (aJ f y) K f rows) (hK:∀i f' rows' a' w',K i f' rows'->ou w0 S0 n G (fun v=>(i=1∧v=ver)∨U v) f' rows' a' w'->K' a' w'):o.wp E.P a c.w K' Q:=by
 have hρ:=lS hf
 have run:∀ {v':Value} {w':World},(Builtin.append_ #[t,t] o.type #[a.eval x,a.eval y]).run E.P c.w = .ok v' w'->K' (a.put o.dst v') w'->o.wp E.P a c.w K' Q:=by
  intro v' w' h1 h2;unfold Oper.wp
  have JK:(Builtin.append_ #[t,t2] o.type #[a.eval x,a.eval y]).run E.P c.w = .ok v' w':=by
   rcases X8 with rfl | X8
   ·exact h1
   ·obtain⟨e2,X1⟩:=X7 X8
    have yE:∃e,E.P.underlying t=some (.slice e):=by
     unfold ow at h
     split at h
     ·rename_i e n b z hE;exact⟨e,(fM hE).1⟩
     ·exact h.elim
    obtain⟨e,hu⟩:=yE;rw [Pq hu X1];exact h1
  have:(execOp a.eval o).run E.P c.w = .ok (.value v') w':=by simp only [execOp,hop,resolve,invoke,builtin,Sem.run_bind,Sem.run_pure,Result.andThen_ok,map_toArray,map_cons,map_nil,JK]
  rw [this];exact h2
 unfold ow at h
 split at h
 ·rename_i e sz b z hE;obtain⟨l,hl,hlen,h⟩:=h;obtain⟨hu,jO,Ep,i,zv,hi,hz,hs,hby,Em,_⟩:=fM hE;have Ca:zv.cells.size=sz:=by rw [<-Ep,<-Em];simp
  rw [<-hr]at hl;obtain⟨A,cap,news,hvy,g1,g2,g3,g4,g5⟩:=tR hI (hρ y) hl hlen
  have main:∀(vx:Value) (k:Nat) (xs:List Value),c.w.ownsRow w0.heap.size e sz vx k xs->a.eval x=vx->k+l.length<=room->(k+l.length)*b<=room ->
    ∃v' w',(Builtin.append_ #[t,t] o.type #[a.eval x,a.eval y]).run E.P c.w = .ok v' w'∧w'.ownsRow w0.heap.size e sz v' (k+l.length) (xs++news)∧c.w.grownBy w' vx.ownBlock∧(v'.ownBlock=vx.ownBlock∨v'.ownBlock=some c.w.heap.size):=by
   intro vx k xs i0 X4 Ey wW;rw [X4,hvy];cases A with
   | some ad =>
    obtain⟨v',w',q1,q2,q3,_,q5⟩:=run_append_own_at (P:=E.P) c.w w0.heap.size t o.type e i zv sz b hu hi hz hs hby Ca jO vx k xs i0 ad l.length cap news g1 (g5 ad rfl) g3 (uZ Ey) (by simpa [room]using wW) hI.below.size;exact⟨v',w',q1,q2,q3,q5⟩
   | none =>
    have uI:=g4 rfl;subst uI;have SS:news = []:=eq_nil_of_length_eq_zero (au g1);subst SS;refine⟨vx,c.w,?_,au i0,⟨rfl,rfl,rfl,Nat.le_refl _,fun _ _ _=>rfl⟩, .inl rfl⟩
    rcases i0.2 with ⟨rfl,rfl⟩ | ⟨g,jj,cur,rfl,_,_,JG,_⟩
    ·simp [Builtin.append_,run_underlying hu,Go.sizeOf,typeInfo,hi,Builtin.lenOf,Builtin.firstCells]
    ·simp [Builtin.append_,run_underlying hu,Go.sizeOf,typeInfo,hi,Builtin.lenOf,Builtin.firstCells,JG,storeCells]
  split at h
  ·-- aj5 nil
   rename_i heq;obtain⟨Ey,wW,h⟩:=h;have hx:=hρ x;rw [heq]at hx;simp only [az,aB,de]at hx;obtain⟨v',w',q1,q2,q3,q4⟩:=main (.slice none 0 0) 0 [] (World.ownsRow_nil _ _ _ _) hx (au Ey) (au wW);simp only [Nat.zero_add,nil_append]at q2
   obtain⟨mh,hA⟩:=hI.set (ob:=none) (id:=o.dst.getD 0) (r':=⟨ver,e,sz,l⟩) (xs:=news) q3 av q2 g2 g3 hlen jO (by
    intro g hg
    rcases q4 with q4 | q4
    ·rw [q4]at hg;simp [Value.ownBlock]at hg
    ·rw [q4]at hg;cases hg;exact .inr (Nat.le_refl _)) (fun hu=>eJ (eB _ hu))
   have hv:az { c with w:=w',β:=dH c.β (o.dst.getD 0) v',rows:=dH c.rows (o.dst.getD 0) (some ⟨ver,e,sz,l⟩),used:=fun v=>v=ver∨c.used v } (.own (o.dst.getD 0) ver 0 l.length) v':=by
    have SY:∃A' jj,v' = .slice A' l.length jj:=by
     rcases q2.2 with ⟨rfl,h0⟩ | ⟨g,jj,cur,rfl,_⟩
     ·exact⟨none,0,by rw [h0]⟩
     ·exact⟨_,jj,rfl⟩
    obtain⟨A',jj,rfl⟩:=SY;exact kV (r:=⟨ver,e,sz,l⟩) (by simp [dH]) rfl (Or.inl rfl) (by simp [dH])
   obtain⟨f',rows',hk,Ai⟩:=qS (K:=K 1) hr eB hf hG hn eW h mh hA hv hd;exact run q1 (hK 1 f' rows' _ _ hk (Ai.mono fun v hv=>hv.imp (fun h=>⟨rfl,h⟩) fun h=>h))
  ·-- aj5 a row of its own
   rename_i id aj4 off len heq;obtain⟨r,qO,iZ,rfl,hle,he,mr,Ey,wW,h⟩:=h;rw [<-hr]at qO;have hx:=hρ x;rw [heq]at hx;simp only [az,aB]at hx;obtain⟨⟨xs,i0,fh,i3⟩,uY,hnS,_⟩:=hI.row id r qO
   obtain⟨A0,m0,aj6,hβ,hxv⟩:∃A' m jj,c.β id = .slice A' m jj∧a.eval x = .slice A' len jj:=by
    rcases(hx.2 r qO iZ).2 with ⟨_,h⟩ | ⟨h0,_⟩
    ·exact h
    ·omega
   have hm:m0=r.els.length:=by
    rw [hβ]at i0
    rcases i0.2 with ⟨h',h0⟩ | ⟨g,aj2,cur,h',_⟩
    ·simp at h';omega
    ·simp at h';exact h'.2.1
   subst hm;have R9:(c.β id).ownBlock=(Value.slice A0 len aj6).ownBlock:=(by rw [hβ];cases A0<;>rfl);have hbg:=i0.lt;rw [he,mr,hβ]at i0;obtain⟨v',w',q1,q2,q3,q4⟩:=main (.slice A0 len aj6) len (xs.take (len*sz)) (SX i0 hle) hxv Ey wW;rw [<-R9]at q3 q4;have SZ:∀e∈r.els,e.length=sz:=fun e oU=>by rw [uY e oU,mr]
   have yT:(r.els.take len++l).length=len+l.length:=by rw [length_append,length_take,Nat.min_eq_left hle]
   obtain⟨mh,hA⟩:=hI.set (ob:=(c.β id).ownBlock) (id:=id) (r':=⟨ver,e,sz,r.els.take len++l⟩) (xs:=xs.take (len*sz)++news) q3 (by
    intro g hg
    refine⟨(hbg g hg).1,fun o=>hnS g o hg,fun iX r' gI km hb=>km (hI.apart iX id r' r g gI qO hb hg)⟩) (by simpa only [yT]using q2) (by
     show aN (aB c) (r.els.take len++l).flatten _;rw [flatten_append,(ov SZ len).1];exact(fh.take _).append g2) (by
     intro u hu
     rcases mem_append.1 hu with hu | hu
     ·exact i3 u (mem_of_mem_take hu)
     ·exact g3 u hu) (by
     intro e' oU
     rcases mem_append.1 oU with oU | oU
     ·exact SZ e' (mem_of_mem_take oU)
     ·exact hlen e' oU) jO (by
     intro g hg
     rcases q4 with q4 | q4
     ·exact .inl (by rw [<-q4];exact hg)
     ·rw [q4]at hg;cases hg;exact .inr (Nat.le_refl _)) (fun hu=>eJ (eB _ hu))
   have hv:az { c with w:=w',β:=dH c.β id v',rows:=dH c.rows id (some ⟨ver,e,sz,r.els.take len++l⟩),used:=fun v=>v=ver∨c.used v } (.own id ver 0 (len+l.length)) v':=by
    have SY:∃A' jj,v' = .slice A' (len+l.length) jj:=by
     rcases q2.2 with ⟨rfl,h0⟩ | ⟨g,jj,cur,rfl,_⟩
     ·exact⟨none,0,by rw [h0]⟩
     ·exact⟨_,jj,rfl⟩
    obtain⟨A',jj,rfl⟩:=SY;exact kV (r:=⟨ver,e,sz,r.els.take len++l⟩) (by simp [dH]) yT (Or.inl rfl) (by simp [dH])
   obtain⟨f',rows',hk,Ai⟩:=qS (K:=K 1) hr eB hf hG hn eW h mh hA hv hd;exact run q1 (hK 1 f' rows' _ _ hk (Ai.mono fun v hv=>hv.imp (fun h=>⟨rfl,h⟩) fun h=>h))
  ·-- aj5 cells that stay,its capacity its length
   rename_i l0 heq;obtain⟨uY,MA,Ey,wW,h⟩:=h;have hx:=hρ x;rw [heq]at hx;simp only [az,aB,de]at hx;obtain⟨A0,S3,Jm,S4⟩:=hx
   have fin:∀ {v':Value} {w':World},(Builtin.append_ #[t,t] o.type #[a.eval x,a.eval y]).run E.P c.w = .ok v' w' ->
     (∃c',c'.w=w'∧c'.rows=c.rows∧c'.used=c.used∧Inv w0 S0 c'∧so c c'∧az c' (.sl (l0++l)) v')->o.wp E.P a c.w K' Q:=by
    rintro v' w' gQ ⟨c',rfl,h2,h3,h4,h5,h6⟩;refine run gQ (hK 0 _ _ _ _ h ?_);exact qR hf hG hn eW h5 h4 h6 hd rfl (by rw [h2,hr]) (by rw [h3];exact fun v hv => .inr (eB v hv))
   have X9:aN (de c.S c.w) l.flatten news:=by refine aN.bT g2.length fun k p u hp hu=>?_;obtain⟨u',q1,q2⟩:=g2.get hp;rw [hu]at q1;cases q1;have lA:=mem_of_getElem? hp;rw [mem_flatten]at lA;obtain⟨e',oU,lU⟩:=lA;exact q2.rep (MA e' oU p lU)
   by_cases uI:l = []
   ·subst uI
    refine fin (v':=.slice A0 l0.length l0.length) (w':=c.w) ?_ ⟨c,rfl,rfl,rfl,hI,so.refl c,?_⟩
    ·have SS:news = []:=eq_nil_of_length_eq_zero (au g1);subst SS
     have hfc:(Builtin.firstCells i.size 0 (.slice A 0 cap)).run E.P c.w = .ok #[] c.w:=by
      cases A with
      | none=>simp [Builtin.firstCells]
      | some ad=>simp [Builtin.firstCells,loadCells,loadCellsFrom]
     rw [S3,hvy];cases A0 with
     | none=>simp [Builtin.append_,run_underlying hu,Go.sizeOf,typeInfo,hi,Builtin.lenOf,hfc]
     | some ad0=>simp [Builtin.append_,run_underlying hu,Go.sizeOf,typeInfo,hi,Builtin.lenOf,hfc,storeCells]
    ·simp only [az,aB,de,append_nil];exact⟨A0,_,rfl,Nat.le_refl _,Jm,S4⟩
   ·have aj1:0<l.length:=length_pos_iff.2 uI
    obtain⟨ad,rfl⟩:∃ad,A=some ad:=by
     cases A with
     | none=>exact absurd (g4 rfl) uI
     | some ad=>exact⟨ad,rfl⟩
    obtain⟨A2,X5,Ya,X4,o1,o2,o3,o4,o5⟩:=tR (y:=.iE l0) (vy:=a.eval x) (l:=l0) hI (by simp only [az,aB,de];exact⟨A0,S3,Jm,S4⟩) rfl uY;rw [S3]at X4;simp only [Value.slice.injEq]at X4;obtain⟨rfl,_,rfl⟩:=X4
    have Yb:aN (de c.S c.w) l0.flatten Ya:=by
     refine aN.bT o2.length fun k p u hp hu=>?_;have lA:=mem_of_getElem? hp
     rcases S4 with rfl | ⟨g,oo,rfl,hre⟩
     ·simp at hp
     ·have aqN:l0.flatten.length=l0.length*sz:=(by rw [o2.length,o1]);have hk:k<l0.length*sz:=(by rw [<-aqN];exact(List.getElem?_eq_some_iff.1 hp).1);have hq:k/sz<l0.length:=(Nat.div_lt_iff_lt_mul jO).2 hk;have mg:=uY l0[k/sz] (getElem_mem hq);have hj:k%sz<l0[k/sz].length:=(by rw [mg];exact Nat.mod_lt _ jO);have ME:k/sz*sz+k%sz=k:=(by rw [Nat.mul_comm];exact Nat.div_add_mod k sz);have hfg:=jv uY (getElem?_eq_getElem hq) (getElem?_eq_getElem hj);rw [ME,hp]at hfg;cases hfg;obtain⟨u',r1,_,_,r4⟩:=iF (ji hre uY (getElem?_eq_getElem hq)) (getElem?_eq_getElem hj);have:=o5 _ rfl k u hu;rw [iY]at this;rw [show oo+k/sz*sz+k%sz=oo+k by omega,this]at r1;cases r1;exact r4
    have grow:∃v' w',(Builtin.append_ #[t,t] o.type #[a.eval x,a.eval y]).run E.P c.w = .ok v' w'∧w'.ownsRow c.w.heap.size e sz v' (l0.length+l.length) (Ya++news)∧c.w.grownBy w' none:=by
     rw [S3,hvy];cases A0 with
     | some ad0=>exact run_append_arg_grows (P:=E.P) c.w t o.type e i zv sz b hu hi hz hs hby Ca jO ad0 l0.length l0.length Ya o1 (o5 ad0 rfl) ad l.length cap news g1 (g5 ad rfl) aa (uZ Ey) (by simpa [room]using wW)
     | none =>
      have aqO:=o4 rfl;subst aqO;have ho0:Ya = []:=eq_nil_of_length_eq_zero (au o1);subst ho0;obtain⟨v',w',q1,q2,q3,_,q5⟩:=run_append_own_at (P:=E.P) c.w c.w.heap.size t o.type e i zv sz b hu hi hz hs hby Ca jO (.slice none 0 0) 0 [] (World.ownsRow_nil _ _ _ _) ad l.length cap news g1 (g5 ad rfl) g3 (by simpa using uZ Ey) (by simpa [room]using wW) (Nat.le_refl _);exact⟨v',w',q1,au q2,q3⟩
    obtain⟨v',w',q1,q2,q3⟩:=grow
    refine fin q1 (JU hI q3 (els:=l0++l) (au q2) (by rw [flatten_append];exact Yb.append X9) (fun u hu=>?_) (fun e' oU=>?_))
    ·rcases mem_append.1 hu with hu | hu
     ·exact o3 u hu
     ·exact g3 u hu
    ·rcases mem_append.1 oU with oU | oU
     ·exact uY e' oU
     ·exact hlen e' oU
  ·exact h.elim
 ·exact h.elim
end
section
variable {E:Env} {w0:World} {S0:dz} {n:Nat} {G:Gs}
theorem u0(eJ:¬U ver){K:Nat->(Nat->PV)->Rows->Prop}(h:nY E ver o K f rows)(hR:ou w0 S0 n G U f rows a w)(hd:∀t,o.dst=some t->t<n)
 (hK:∀i f' rows' a' w',K i f' rows'->ou w0 S0 n G (fun v=>(i=1∧v=ver)∨U v) f' rows' a' w'->K' a' w'):o.wp E.P a w K' Q:=by
 obtain⟨⟨c,rfl,hr,eB,hI,hf,hG⟩,hn,eW⟩:=hR;have hρ:=lS hf;have hfu:¬c.used ver:=fun hu=>eJ (eB _ hu);have value:∀ {v':Value} {w':World},(execOp a.eval o).run E.P c.w = .ok (.value v') w'->K' (a.put o.dst v') w'->o.wp E.P a c.w K' Q:=by intro v' w' h1 h2;unfold Oper.wp;rw [h1];exact h2
 have newVar:∀(t:TypeId) (l:List PV) (vx:Value),(E.ty t).known=true->aN (aB c) l vx.cells.toList->(∀u∈vx.cells.toList,u.oneCell'=true)->l.length=(E.ty t).size ->
   C0 K ver f rows o.dst (.ptr (o.dst.getD 0) ver 0 0) (o.dst.getD 0) t (E.ty t).size [l]->(execOp a.eval o).run E.P c.w = .ok (.value (.pointer (some ⟨c.w.heap.size,0,none⟩))) (c.w.alloc (.cells vx.cells t))->o.wp E.P a c.w K' Q:=by
  intro t l vx hk fh i3 hlen hp gQ;have hz:=(E.ok t).zero hk;have mr:vx.cells.size=(E.ty t).size:=by rw [<-hlen,fh.length];simp
  obtain⟨mh,hA⟩:=wV hI hfu (o.dst.getD 0) t (E.ty t).size 1 1 [l] vx.cells rfl (Nat.le_refl _) (by simp [maxLen]) aa (by simp only [flatten_cons,flatten_nil,append_nil];rw [take_of_length_le (by simp [mr])];exact fh) i3 (au hlen) hz.pos;obtain⟨f',rows',wE,Ai⟩:=qS (K:=K 1) hr eB hf hG hn eW hp mh hA (SW (Or.inl rfl) (g:=c.w.heap.size) (n:=1) (cap:=1) (by simp [dH])) hd;exact value gQ (hK 1 f' rows' _ _ wE (Ai.mono fun v hv=>hv.imp (fun h=>⟨rfl,h⟩) fun h=>h))
 obtain⟨dst,op,type,pos,after,guard⟩:=o;simp only at hd value newVar;unfold nY at h;simp only at h
 split at h
 ·-- alloc
  rename_i t;obtain⟨hk,h⟩:=h;have hz:=(E.ok t).zero hk;obtain⟨i,zv,h1,h2,h3,h4,h5,h6⟩:=SV (c:=c) hz;exact newVar t (E.ty t).zero zv hk h4 h6 rfl h (by simp [execOp,Instr.alloc,zeroValue,typeInfo,h1,h2,Go.newVar,newRow])
 ·-- box
  rename_i t x;obtain⟨hk,l,hl,i3,hlen,h⟩:=h;rw [<-hr]at i3;obtain⟨g1,g2⟩:=mv (hρ x) hl i3;exact newVar t l (a.eval x) hk g1 g2 hlen h (by simp [execOp,Instr.box,Go.newVar,newRow])
 ·-- makeSlice
  rename_i t l cc
  split at h
  ·rename_i e sz b z k1 x k2 y hE hl hc;obtain⟨h0,pR,Ey,wW,h⟩:=h;obtain⟨hu,jO,Ep,i,zv,hi,hz,hs,hby,Em,hzo⟩:=fM hE;have g1:=hρ l;have g2:=hρ cc;rw [hl,cH]at g1;rw [hc,cH]at g2;have Ca:zv.cells.size=sz:=by rw [<-Ep,<-Em];simp
   have ad7:(i.bytes:Int)*y<=281474976710656:=(by rw [hby];have h3:((y.toNat*b:Nat):Int)<=room:=(by exact_mod_cast wW);have h4:((y.toNat:Nat):Int)=y:=Int.toNat_of_nonneg aa;rw [Int.natCast_mul,h4]at h3;simp only [room]at h3;rw [Int.mul_comm];omega);have gQ:=run_make (P:=E.P) c.w t e i zv hu hi hz k1 k2 x y h0 pR ad7 (by simp only [room]at Ey;omega);have aj7:(execOp a.eval { dst:=dst,op:=.makeSlice t l cc,type:=type,pos:=pos,after:=after,guard:=guard }).run E.P c.w = .ok (.value (.slice (some ⟨c.w.heap.size,0,none⟩) x.toNat y.toNat)) (c.w.alloc (.cells (madeCells zv.cells (y.toNat*i.size)) e)):=(by simp [execOp,g1,g2,gQ]);have aj8:aN (aB c) z zv.cells.toList:=(by rw [<-Em];refine aN.bT av fun k p u hp hu=>?_;simp at hp;obtain⟨q,hq,rfl⟩:=hp;have:zv.cells.toList[k]? = some q:=au hq;rw [this]at hu;cases hu;exact kl _);have hle:x.toNat*sz<=y.toNat*sz:=Nat.mul_le_mul_right _ aa;have hL:((madeCells zv.cells (y.toNat*i.size)).toList.take (x.toNat*sz)).length=x.toNat*sz:=by rw [length_take,Array.length_toList,size_madeCells,hs];exact Nat.min_eq_left hle
   obtain⟨mh,hA⟩:=wV hI hfu (dst.getD 0) e sz x.toNat y.toNat (replicate x.toNat z) (madeCells zv.cells (y.toNat*i.size)) av aa (uZ Ey) (by rw [size_madeCells,hs]) (by
    refine aN.bT (by rw [hL];simp [Ep]) fun k p u hp hu=>?_;have hk:=(List.getElem?_eq_some_iff.1 hu).1;rw [hL]at hk;rw [getElem?_take,if_pos aa,tA (by rw [hs];omega) aa]at hu;have lU:=ki hp;rw [Ep,<-Ca]at lU;obtain⟨u',q1,q2⟩:=aj8.get lU;rw [hu]at q1;cases q1;exact q2) (by
    intro u hu;obtain⟨k,hk⟩:=getElem?_of_mem hu;have wE:=(List.getElem?_eq_some_iff.1 hk).1;simp [size_madeCells]at wE;rw [tA wE aa]at hk;have:=mem_of_getElem? hk;exact(Array.all_eq_true_iff_forall_mem.1 hzo) u (au this)) (by
    intro e' oU;rw [mem_replicate]at oU;rw [oU.2,Ep]) jO
   obtain⟨f',rows',wE,Ai⟩:=qS (K:=K 1) hr eB hf hG hn eW h mh hA (kV (r:=⟨ver,e,sz,replicate x.toNat z⟩) (A:=some ⟨c.w.heap.size,0,none⟩) (cap:=y.toNat) (by simp [dH]) av (Or.inl rfl) (by simp [dH])) hd;exact value aj7 (hK 1 f' rows' _ _ wE (Ai.mono fun v hv=>hv.imp (fun h=>⟨rfl,h⟩) fun h=>h))
  ·exact h.elim
 ·-- append
  rename_i x y t t2;obtain⟨X8,h⟩:=h;exact Ah eJ rfl X8 hI hr eB hf hG hn eW hd h hK
 ·exact h.elim
theorem nr{K:PS->Prop}(h:dJ E o K σ)(hR:Rel w0 S0 n G σ a w)(hd:∀t,o.dst=some t->t<n)
 (hK:∀σ' a' w',K σ'->Rel w0 S0 n G σ' a' w'->K' a' w'):o.wp E.P a w K' Q:=by
 obtain⟨⟨c,rfl,hr,eB,hI,hf,hG⟩,hn,eW⟩:=hR;have hρ:=lS hf;have value:∀ {v':Value} {w':World},(execOp a.eval o).run E.P c.w = .ok (.value v') w'->K' (a.put o.dst v') w'->o.wp E.P a c.w K' Q:=by intro v' w' h1 h2;unfold Oper.wp;rw [h1];exact h2
 have JV:(∃v u,ys E o.op (aJ σ.f) σ.rows v u∧K ⟨put σ.f o.dst v,dP σ.rows u,σ.clock⟩)->o.wp E.P a c.w K' Q:=by rintro⟨v,u,hy,hk⟩;rw [<-hr]at hy;refine GL hI hf hy fun v' c' h1 h2 h3 h4 h5=>hK _ _ _ hk ?_;exact uX (fun s=>h3 _ _ (hf s)) (fun p hp=>h3 _ _ (hG p hp)) hn eW h4 h5 hd rfl (by simp [h1,hr]) (by rw [h2];exact eB)
 have nw:nY E σ.clock o (fun i f r=>K ⟨f,r,σ.clock+i⟩) σ.f σ.rows->o.wp E.P a c.w K' Q:=fun hp =>
  u0 (U:=fun v=>v<σ.clock) (Nat.lt_irrefl _) hp ⟨⟨c,rfl,hr,eB,hI,hf,hG⟩,hn,eW⟩ hd fun i f' rows' a' w' hk Ai=>hK _ _ _ hk (Ai.mono fun v hv=>by
   show v<σ.clock+i
   rcases hv with ⟨rfl,rfl⟩ | hv
   ·omega
   ·have:v<σ.clock:=hv;omega)
 obtain⟨dst,op,type,pos,after,guard⟩:=o;simp only at hd value JV nw;unfold dJ at h;simp only at h
 split at h
 ·-- alloc
  rename_i t;exact nw (show nY E σ.clock _ _ σ.f σ.rows from h)
 ·-- box
  rename_i t x;exact nw (show nY E σ.clock _ _ σ.f σ.rows from h)
 ·-- makeSlice
  rename_i t l cc;refine nw (show nY E σ.clock _ _ σ.f σ.rows from ?_);unfold nY;simp only
  split at h
  ·exact h
  ·exact h.elim
 ·-- append
  rename_i x y t t2;obtain⟨X8,h⟩:=h;refine nw (show nY E σ.clock _ _ σ.f σ.rows from⟨X8,?_⟩);unfold yU at h;unfold ow
  split at h
  ·obtain⟨l,g1,g2,g3⟩:=h;refine⟨l,g1,g2,?_⟩;split at g3<;>exact g3
  ·exact h
 ·-- a call
  rename_i fo args ts;have di:aN (az c) (args.toList.map fun x=>aJ σ.f x) (args.map a.eval).toList:=by refine aN.bT av fun k p u hp hu=>?_;simp at hp hu;obtain⟨x,hx,rfl⟩:=hp;obtain⟨y,hy,rfl⟩:=hu;rw [hx]at hy;cases hy;exact hρ x
  split at h
  ·have Ev:=hρ fo;unfold Eo at h
   split at h
   ·rename_i g heq;rw [heq]at Ev;obtain⟨R,⟨⟨fn,b,h1,h2,h3⟩,Ag⟩,hk⟩:=h;simp only [az,aB,de]at Ev;obtain⟨cs,X6,z6⟩:=Ev;simp only [bO]at z6;subst z6
    have iL:=Ag w0 S0 c _ (fun p=>p∈G ∨ ∃s,p=(σ.f s,a.tmps.getD s undef)) hI hr eB di (by
     rintro p (hp | ⟨s,rfl⟩)
     ·exact hG p hp
     ·exact hf s)
    simp only [Array.toArray_toList]at iL;unfold Oper.wp;have gQ:(execOp a.eval { dst:=dst,op:=.call { callee:=.value fo,args:=args,argTypes:=ts },type:=type,pos:=pos,after:=after,guard:=guard }).run E.P c.w = .ok (.enter g (args.map a.eval)) c.w:=(by simp only [execOp,resolve,X6,Deferred.ofValue,Sem.run_bind,Sem.run_pure,Result.andThen_ok,invoke];simpa using gb h1 h2 h3 (args.map a.eval) c.w);rw [gQ];refine iL.mono ?_;rintro e w' ⟨v',c',r,bV,rfl,rfl,mh,B8,gR,tQ,JO⟩;refine hK _ _ _ (hk _ _ _ gR) ?_;exact uX (fun s=>B8 (σ.f s,a.tmps.getD s undef) (.inr ⟨s,rfl⟩)) (fun p hp=>B8 p (.inl hp)) hn eW mh JO hd rfl rfl tQ
   ·rename_i g fs bF heq;rw [heq]at Ev;obtain⟨R,⟨⟨fn,b,h1,h2,h3⟩,Ag⟩,hk⟩:=h;obtain⟨us,cs,X6,hus,z6⟩:=Ev;have ad8:aN (az c) (fs++(args.toList.map fun x=>aJ σ.f x)++bF) (us++(args.map a.eval).toList++cs):=((hus.mono fun _ _=>eZ).append di).append (z6.mono fun _ _=>eZ)
    have iL:=Ag w0 S0 c _ (fun p=>p∈G ∨ ∃s,p=(σ.f s,a.tmps.getD s undef)) hI hr eB ad8 (by
     rintro p (hp | ⟨s,rfl⟩)
     ·exact hG p hp
     ·exact hf s)
    have ad9:(us++(args.map a.eval).toList++cs).toArray=us.toArray++args.map a.eval++cs.toArray:=av;rw [ad9]at iL;unfold Oper.wp;have gQ:(execOp a.eval { dst:=dst,op:=.call { callee:=.value fo,args:=args,argTypes:=ts },type:=type,pos:=pos,after:=after,guard:=guard }).run E.P c.w = .ok (.enter g (us.toArray++args.map a.eval++cs.toArray)) c.w:=(by simp only [execOp,resolve,X6,Deferred.ofValue,Sem.run_bind,Sem.run_pure,Result.andThen_ok,invoke];simpa using gb h1 h2 h3 (us.toArray++args.map a.eval++cs.toArray) c.w);rw [gQ];refine iL.mono ?_;rintro e w' ⟨v',c',r,bV,rfl,rfl,mh,B8,gR,tQ,JO⟩;refine hK _ _ _ (hk _ _ _ gR) ?_;exact uX (fun s=>B8 (σ.f s,a.tmps.getD s undef) (.inr ⟨s,rfl⟩)) (fun p hp=>B8 p (.inl hp)) hn eW mh JO hd rfl rfl tQ
   ·exact h.elim
  obtain⟨v,hc,hp,hk⟩:=h;rw [<-hr]at hc hp hk;have uP:xN E (aJ σ.f fo) ((args.toList.map fun x=>aJ σ.f x).map (pz c.rows)) v:=by rw [map_map];exact hc
  obtain⟨g,cs,h1,h2,h3⟩:=xO hI (ids:=args.toList.flatMap fun x=>dA (aJ σ.f x)) hp (hρ fo) di (by intro p hp id fp;simp at hp;obtain⟨x,hx,rfl⟩:=hp;simp only [mem_flatMap];exact⟨x,au hx,fp⟩) uP (K:=fun v' w'=>K' (a.put dst v') w') (fun v' c' q1 q2 q3 q4 q5=>hK _ _ _ hk (oV hf hG hn eW q3 q4 q5 hd rfl (by simp [q1]) (by rw [q2];exact eB)));unfold Oper.wp;have gQ:(execOp a.eval { dst:=dst,op:=.call { callee:=.value fo,args:=args,argTypes:=ts },type:=type,pos:=pos,after:=after,guard:=guard }).run E.P c.w = .ok (.enter g (args.map a.eval++cs)) c.w:=by simp only [execOp,resolve,h1,Deferred.ofValue,Sem.run_bind,Sem.run_pure,Result.andThen_ok,invoke];simp only [Array.toArray_toList]at h2;simpa only [Array.empty_append]using h2
  rw [gQ];simp only [Array.toArray_toList]at h3;exact h3.mono fun e w' ⟨v',he,hk⟩=>by subst he;exact hk
 ·-- a method behind an interface
  rename_i fo name args ts;obtain⟨t,id,ver,g,heq,⟨r,tB,bE⟩,hm,R,⟨⟨fn,b,h1,h2,h3⟩,Ag⟩,hk⟩:=h;have Ev:=hρ fo;rw [heq]at Ev;rw [<-hr]at tB;obtain⟨bl,n',cap,hβ,X6⟩:=Ev.2 r tB bE;have di:aN (az c) (args.toList.map fun x=>aJ σ.f x) (args.map a.eval).toList:=by refine aN.bT av fun k p u hp hu=>?_;simp at hp hu;obtain⟨x,hx,rfl⟩:=hp;obtain⟨y,hy,rfl⟩:=hu;rw [hx]at hy;cases hy;exact hρ x
  have Pk:az c (.ptr id ver 0 0) (.pointer (some ⟨bl,0,none⟩)):=⟨⟨Ev.1.1,rfl⟩,fun r' _ _=>⟨bl,n',cap,hβ,av⟩⟩
  have iL:=Ag w0 S0 c (.pointer (some ⟨bl,0,none⟩)::(args.map a.eval).toList) (fun p=>p∈G ∨ ∃s,p=(σ.f s,a.tmps.getD s undef)) hI hr eB ⟨Pk,di⟩ (by
   rintro p (hp | ⟨s,rfl⟩)
   ·exact hG p hp
   ·exact hf s)
  have ad9:(Value.pointer (some ⟨bl,0,none⟩)::(args.map a.eval).toList).toArray = #[.pointer (some ⟨bl,0,none⟩)]++args.map a.eval:=by rw [toArray_cons]
  rw [ad9]at iL;unfold Oper.wp;have gQ:(execOp a.eval { dst:=dst,op:=.call { callee:=.invoke fo name,args:=args,argTypes:=ts },type:=type,pos:=pos,after:=after,guard:=guard }).run E.P c.w = .ok (.enter g (#[.pointer (some ⟨bl,0,none⟩)]++args.map a.eval)) c.w:=by have hx:(#[a.eval fo]++args.map a.eval:Array Value)[0]? = some (a.eval fo):=(by rw [Array.getElem?_append_left av];rfl);have hx2:(#[a.eval fo]++args.map a.eval:Array Value).extract 1 (#[a.eval fo]++args.map a.eval:Array Value).size=args.map a.eval:=(by apply Array.ext';simp [extract];exact take_of_length_le av);simp only [execOp,resolve,Sem.run_bind,Sem.run_pure,Result.andThen_ok,invoke,hx,hx2];rw [X6];have hm':=hm bl c.w;have hpr:(program).run E.P c.w = .ok E.P c.w:=rfl;simp only [callMethod,Sem.run_bind,hpr,Sem.run_pure,Result.andThen_ok,hm'];exact gb h1 h2 h3 _ c.w
  rw [gQ];refine iL.mono ?_;rintro e w' ⟨v',c',r,bV,rfl,rfl,mh,B8,gR,tQ,JO⟩;refine hK _ _ _ (hk _ _ _ gR) ?_;exact uX (fun s=>B8 (σ.f s,a.tmps.getD s undef) (.inr ⟨s,rfl⟩)) (fun p hp=>B8 p (.inl hp)) hn eW mh JO hd rfl rfl tQ
 ·-- a closure
  rename_i g fs bF
  split at h
  ·rename_i hm;obtain⟨⟨h1,h2⟩,hk⟩:=h;exact JV ⟨_,none,⟨by simp only [yv];rw [if_pos hm];exact⟨⟨h1,h2⟩,trivial⟩,rfl⟩,hk⟩
  obtain⟨Xw,tx,hp,hk⟩:=h;have adX:fs = #[]:=by have:=congrArg toArray Xw;simpa using this
  subst adX;rw [<-hr]at tx hp hk;have Gl:=hI.freeze (bF.toList.flatMap fun x=>dA (aJ σ.f x));refine value (v':=.func (.func g) #[] (bF.map a.eval)) (w':=c.w) (by simp [execOp,Instr.makeFunc]) (hK _ _ _ hk ?_);refine oV (c':=B7 c (bF.toList.flatMap fun x=>dA (aJ σ.f x))) hf hG hn eW (jf c _) Gl ?_ hd rfl (by simp [B7]) eB;simp only [az,aB,de];refine⟨(bF.map a.eval).toList,by rw [Array.toArray_toList],cI.2 (aN.bT av fun k p u lU hu=>?_)⟩;simp at lU hu;obtain⟨x,hx,rfl⟩:=lU;obtain⟨y,hy,rfl⟩:=hu;rw [hx]at hy;cases hy;have lA:x∈bF.toList:=by simpa using Array.mem_of_getElem? hx
  exact En hI hp (hρ x) (fun id fp=>by simp only [mem_flatMap];exact⟨x,lA,fp⟩) (all_eq_true.1 tx _ (by simp;exact⟨x,au lA,rfl⟩))
 ·exact JV h
end
def ij(op:Op)(ρ:Operand->PV):List Nat:=
 match op with
 | .load _ p=>aL (ρ p)
 | .fieldAddr _ x _=>aL (ρ x)
 | .indexAddr _ x _=>aL (ρ x)
 | .slice _ x _ _ _=>aL (ρ x)
 | .store _ p x=>aL (ρ p)++((cD (ρ x)).getD []).flatMap aL
 | .call { callee:=.builtin .len,args:=⟨[x]⟩,argTypes:=⟨[_]⟩ }=>aL (ρ x)
 | .call { callee:=.builtin .append,args:=⟨[x,y]⟩,argTypes:=⟨[_,_]⟩ }=>aL (ρ x)++aL (ρ y)
 | .call { callee:=.builtin .copy,args:=⟨[x,y]⟩,argTypes:=⟨[_,_]⟩ }=>aL (ρ x)++aL (ρ y)
 | .nilCheck x=>aL (ρ x)
 | .call { callee:=.value _,args:=args,argTypes:=_ }=>args.toList.flatMap fun x=>aL (ρ x)
 | _=>[]
theorem Pr(h:dA p = []):aL p = []:=by
 cases p with
 | ag l=>rfl
 | cW l=>rfl
 | lR f fs bF=>rfl
 | _=>exact h
theorem C3(h:cB p=true):aL p = []:=by cases p<;>simp_all [cB,aF,aL]
theorem MH{l:List Operand}(h:(l.flatMap fun x=>dA (ρ x)) = []):(l.flatMap fun x=>aL (ρ x)) = []:=
 flatMap_eq_nil_iff.2 fun x hx=>Pr (flatMap_eq_nil_iff.1 h x hx)
theorem MI{l:List Operand}(h:(l.map fun x=>ρ x).all cB=true):(l.flatMap fun x=>aL (ρ x)) = []:=
 flatMap_eq_nil_iff.2 fun x hx=>C3 (all_eq_true.1 h _ (mem_map.2 ⟨x,hx,rfl⟩))
def iP(ids:List Nat)(rows rows':Rows):Prop:=∀id∈ids,∀r,rows id=some r->rows' id=some r
section
variable {E:Env}
theorem yV(h:aL p = []):fz rows p=fz rows' p:=by cases p<;>simp_all [fz,aL]
theorem Yc(h:dA p = []):pz rows p=pz rows' p:=by
 cases p with
 | ag l =>
  simp only [dA,flatMap_eq_nil_iff]at h;simp only [pz];congr 1;exact map_congr_left fun q hq=>yV (h q hq)
 | cW l =>
  simp only [dA,flatMap_eq_nil_iff]at h;simp only [pz];congr 1;exact map_congr_left fun q hq=>yV (h q hq)
 | lR f fs bF=>rfl
 | _=>simp only [pz,dA]at h |-;exact yV h
theorem Ez(h:iP (aL p) rows rows')(ho:ib rows p):ib rows' p:=by
 cases p with
 | own id ver off len=>obtain⟨r,hr,hv⟩:=ho;exact⟨r,h id (by simp [aL]) r hr,hv⟩
 | ptr id ver i j=>obtain⟨r,hr,hv⟩:=ho;exact⟨r,h id (by simp [aL]) r hr,hv⟩
 | m7 t id ver=>obtain⟨r,hr,hv⟩:=ho;exact⟨r,h id (by simp [aL]) r hr,hv⟩
 | _=>exact ho
theorem Ps(ho:ib rows p):∀id∈aL p,∃r,rows id=some r:=by
 intro id fp;cases p with
 | own iX ver off len=>simp [aL]at fp;subst fp;obtain⟨r,hr,_⟩:=ho;exact⟨r,hr⟩
 | ptr iX ver i j=>simp [aL]at fp;subst fp;obtain⟨r,hr,_⟩:=ho;exact⟨r,hr⟩
 | m7 t iX ver=>simp [aL]at fp;subst fp;obtain⟨r,hr,_⟩:=ho;exact⟨r,hr⟩
 | _=>simp [aL]at fp
theorem GM(h:iP (aL p) rows rows')(hy:qG E t rows p v):qG E t rows' p v ∧ ∀id∈aL p,∃r,rows id=some r:=by
 obtain⟨hk,hy⟩:=hy;cases p with
 | ptr id ver i j =>
  obtain⟨r,hr,hh⟩:=hy;exact⟨⟨hk,r,h id (by simp [aL]) r hr,hh⟩,by simp [aL];exact⟨r,hr⟩⟩
 | rd l=>exact⟨⟨hk,hy⟩,by simp [aL]⟩
 | _=>exact hy.elim
theorem Ck{x:PV}(h:iP (aL x) rows rows')(hy:dO E t rows i x v):dO E t rows' i x v ∧ ∀id∈aL x,∃r,rows id=some r:=by
 unfold dO at *
 split at hy
 ·rename_i fs z hE;obtain⟨o,n,b,hf,hy⟩:=hy;cases x with
  | ptr id ver a j =>
   obtain⟨⟨r,hr,hv⟩,hh⟩:=hy;exact⟨⟨o,n,b,hf,⟨r,h id (by simp [aL]) r hr,hv⟩,hh⟩,by simp [aL];exact⟨r,hr⟩⟩
  | rd l=>exact⟨⟨o,n,b,hf,hy⟩,by simp [aL]⟩
  | _=>exact hy.elim
 ·exact hy.elim
theorem tC{x ix:PV}(h:iP (aL x) rows rows')(hy:eG E t rows x ix v):eG E t rows' x ix v ∧ ∀id∈aL x,∃r,rows id=some r:=by
 unfold eG at *
 split at hy
 ·split at hy
  ·obtain⟨h0,hy⟩:=hy;cases x with
   | own id ver off len =>
    obtain⟨r,hr,hh⟩:=hy;exact⟨⟨h0,r,h id (by simp [aL]) r hr,hh⟩,by simp [aL];exact⟨r,hr⟩⟩
   | sl l=>exact⟨⟨h0,hy⟩,by simp [aL]⟩
   | iE l=>exact⟨⟨h0,hy⟩,by simp [aL]⟩
   | _=>exact hy.elim
  ·exact hy.elim
 ·split at hy
  ·obtain⟨h0,hy⟩:=hy;cases x with
   | ptr id ver a j =>
    obtain⟨⟨r,hr,hv⟩,hh⟩:=hy;exact⟨⟨h0,⟨r,h id (by simp [aL]) r hr,hv⟩,hh⟩,by simp [aL];exact⟨r,hr⟩⟩
   | rd l=>exact⟨⟨h0,hy⟩,by simp [aL]⟩
   | _=>exact hy.elim
  ·exact hy.elim
 ·exact hy.elim
theorem Pt{x:PV}{lo hi mx:Option PV}(h:iP (aL x) rows rows')(hy:nU E t rows x lo hi mx v):nU E t rows' x lo hi mx v ∧ ∀id∈aL x,∃r,rows id=some r:=by
 unfold nU at *
 split at hy
 ·cases x with
  | own id ver off len =>
   obtain⟨r,hr,hh⟩:=hy;exact⟨⟨r,h id (by simp [aL]) r hr,hh⟩,by simp [aL];exact⟨r,hr⟩⟩
  | nil=>exact⟨hy,by simp [aL]⟩
  | sl l=>exact⟨hy,by simp [aL]⟩
  | iE l=>exact⟨hy,by simp [aL]⟩
  | _=>exact hy.elim
 ·exact hy.elim
theorem Yd{x:PV}(h:iP (aL x) rows rows')(hy:Pc rows x n):Pc rows' x n ∧ ∀id∈aL x,∃r,rows id=some r:=by
 unfold Pc at *;cases x with
 | own id ver off len =>
  obtain⟨⟨r,hr,hv⟩,hh⟩:=hy;exact⟨⟨⟨r,h id (by simp [aL]) r hr,hv⟩,hh⟩,by simp [aL];exact⟨r,hr⟩⟩
 | nil=>exact⟨hy,by simp [aL]⟩
 | sl l=>exact⟨hy,by simp [aL]⟩
 | iE l=>exact⟨hy,by simp [aL]⟩
 | _=>exact hy.elim
theorem Ye{x:PV}(h:iP (aL x) rows rows')(hy:wQ rows x v):wQ rows' x v ∧ ∀id∈aL x,∃r,rows id=some r:=by
 unfold wQ at *;cases x with
 | ptr id ver i j =>
  obtain⟨⟨r,hr,hv⟩,hh⟩:=hy;exact⟨⟨⟨r,h id (by simp [aL]) r hr,hv⟩,hh⟩,by simp [aL];exact⟨r,hr⟩⟩
 | rd l=>exact⟨hy,by simp [aL]⟩
 | _=>exact hy.elim
theorem Pu{x:PV}(h:iP (aL p++((cD x).getD []).flatMap aL) rows rows')(hy:qL E t rows p x v u) :
  qL E t rows' p x v u∧(∀id∈aL p++((cD x).getD []).flatMap aL,∃r,rows id=some r) ∧ ∃id r,u=some (id,r)∧id∈aL p:=by
 obtain⟨hk,hv,hy⟩:=hy;cases p with
 | ptr id ver i j =>
  obtain⟨r,hr,iZ,el,mg,l,hl,i3,hh1,hh2,hh3⟩:=hy;rw [hl]at h |-;simp only [Option.getD_some]at h |-
  refine⟨⟨hk,hv,r,h id (by simp [aL]) r hr,iZ,el,mg,l,hl,fun q hq=>Ez (fun iX z9=>h iX ?_) (i3 q hq),hh1,hh2,hh3⟩,?_,?_⟩
  ·simp only [mem_append,mem_flatMap];exact .inr ⟨q,hq,z9⟩
  ·intro iX z9;simp only [mem_append,mem_flatMap]at z9
   rcases z9 with z9 | ⟨q,hq,z9⟩
   ·simp [aL]at z9;subst z9;exact⟨r,hr⟩
   ·exact Ps (i3 q hq) iX z9
  ·exact⟨id,_,hh3,by simp [aL]⟩
 | _=>exact hy.elim
theorem MJ(h:iP (aL y) rows rows')(hy:qP rows y l):qP rows' y l ∧ ∀id∈aL y,∃r,rows id=some r:=by
 unfold qP at *;cases y with
 | own id ver off len =>
  obtain⟨r,hr,hh⟩:=hy;exact⟨⟨r,h id (by simp [aL]) r hr,hh⟩,by simp [aL];exact⟨r,hr⟩⟩
 | nil=>exact⟨hy,by simp [aL]⟩
 | sl l=>exact⟨hy,by simp [aL]⟩
 | iE l=>exact⟨hy,by simp [aL]⟩
 | _=>exact hy.elim
theorem S5{t:TI}{x:PV}(h:iP (aL x++aL y) rows rows')(hy:tv t rows x y v u):tv t rows' x y v u∧(∀id∈aL x++aL y,∃r,rows id=some r) ∧ ∀id r,u=some (id,r)->id∈aL x++aL y:=by
 unfold tv at *
 split at hy
 ·rename_i e n b z id ver off len;obtain⟨r,h1,h2,h3,h4,l,h5,h6,h7,rfl⟩:=hy;obtain⟨g1,g2⟩:=MJ (fun id fp=>h id (by simp only [mem_append];exact .inr fp)) h5
  refine⟨⟨r,h id (by simp [aL]) r h1,h2,h3,h4,l,g1,h6,h7,rfl⟩,fun iX fp=>?_,fun iX r' hu=>?_⟩
  ·simp only [aL,mem_append,mem_cons,not_mem_nil,or_false]at fp
   rcases fp with rfl | fp
   ·exact⟨r,h1⟩
   ·exact g2 iX fp
  ·simp only [Option.some.injEq,Prod.mk.injEq]at hu;simp [aL,hu.1]
 ·exact hy.elim
theorem abz{op:Op}(h:iP (ij op ρ) rows rows')(hy:ys E op ρ rows v u) :
  ys E op ρ rows' v u∧(∀id∈ij op ρ,∃r,rows id=some r) ∧ ∀id r,u=some (id,r)->id∈ij op ρ:=by
 unfold ys at hy |-
 split at hy
 ·exact S5 h hy
 ·rename_i t p x;obtain⟨h1,h2,id,r,h3,h4⟩:=Pu h hy;exact⟨h1,h2,fun iX r' hu=>by rw [h3]at hu;cases hu;simp only [ij,mem_append];exact .inl h4⟩
 ·rename_i t len parts;obtain⟨hy,rfl⟩:=hy;unfold JM at hy |-
  split at hy
  ·obtain⟨els,h1,h2,h3,h4,h5,h6,rfl⟩:=hy;have hfz:∀e∈els,∀p∈e,fz rows p=fz rows' p:=fun e he p hp=>yV (h6 e he p hp);refine⟨⟨⟨els,h1,h2,h3,h4,fun e he p hp=>⟨by rw [<-hfz e he p hp];exact(h5 e he p hp).1,Ez (by rw [h6 e he p hp];intro id fp;cases fp) (h5 e he p hp).2⟩,h6,?_⟩,rfl⟩,by simp [ij],av⟩;congr 1;exact map_congr_left fun e he=>map_congr_left fun p hp=>hfz e he p hp
  ·exact hy.elim
 ·rename_i f args ts
  by_cases hm:Ac E (ρ f)=true
  ·rw [if_pos hm]at hy |-;simp only [ij]at h |-;have Jn:(args.toList.flatMap fun x=>aL (ρ x))=(args.toList.map fun x=>ρ x).flatMap aL:=(by rw [flatMap_map]);rw [Jn]at h |-;generalize (args.toList.map fun x=>ρ x)=dD at *;unfold GH at hy |-
   split at hy
   ·rename_i g p0 rest aj3;obtain⟨o,id,ver,rfl,h1,e,n,core,fD,h2,h3,h4,h5,rfl⟩:=hy;have SI:rest.flatMap aL = []:=flatMap_eq_nil_iff.2 fun x hx=>C3 (all_eq_true.1 h1.1 x hx);have hd:aL (Xy o id ver) = [id]:=by cases o<;>rfl
    refine⟨⟨o,id,ver,rfl,h1,e,n,core,fD,h id (by simp [hd]) _ h2,h3,h4,h5,rfl⟩,fun iX fp=>?_,fun iX r' hu=>?_⟩
    ·simp only [flatMap_cons,SI,hd,append_nil,mem_cons,not_mem_nil,or_false]at fp;subst fp;exact⟨_,h2⟩
    ·simp only [Option.some.injEq,Prod.mk.injEq]at hu;rw [flatMap_cons,hd];simp [hu.1]
   ·exact hy.elim
  rw [if_neg hm]at hy |-;obtain⟨rfl,h1,h2⟩:=hy;refine⟨⟨rfl,?_,h2⟩,by simp [ij,MH h2],av⟩
  have:(args.toList.map fun x=>pz rows (ρ x))=args.toList.map fun x=>pz rows' (ρ x):=
   map_congr_left fun x hx=>Yc (flatMap_eq_nil_iff.1 h2 x hx)
  rw [<-this];exact h1
 ·obtain⟨hy,rfl⟩:=hy
  suffices hs:yv E op ρ rows' v ∧ ∀id∈ij op ρ,∃r,rows id=some r from⟨⟨hs.1,rfl⟩,hs.2,av⟩
  unfold yv at hy |-;split at hy
  case h_8=>exact GM h hy
  case h_10=>exact Ck h hy
  case h_11=>exact tC h hy
  case h_12=>exact Pt h hy
  case h_16 =>
   simp only [ij]at h |-;unfold xH at hy |-
   split at hy
   ·obtain⟨n,hn,hv⟩:=hy;have:=Yd (rows':=rows') h hn;exact⟨⟨n,this.1,hv⟩,this.2⟩
   ·exact hy.elim
  case h_19=>exact Ye h hy
  all_goals first
   | exact hy.elim
   | exact⟨hy,by simp [ij]⟩
end
end Pm
