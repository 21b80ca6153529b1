import Derived.DeepKeys
import Derived.Test.YtiobceocpabjdaaGreatNai
import Derived.Test.YtiobceocpabjdaaGreatNam
import Derived.Test.YtiobceocpabjdaaGreatNao
set_option linter.unusedSimpArgs false
set_option linter.unusedVariables false
namespace Go.Proofs.YtiobceocpabjdaaGreat
open Go Pm
open ZX hiding N W
variable {x y:List Int}{an ad bn bd:Int}{f:ZX}{L:List (Rat × Rat)}{k:Nat}
theorem NQ(h:aC 192 [.ag (G9 x an ad bn bd)] (.ag (G9 x an ad bn bd))):aC 198 [.ag (G9 x an ad bn bd)] (.ag (G9 x an ad bn bd)):=by simp only [G9]at *;apply cG [(0, .ag (G9 x an ad bn bd))] Tryz.func198;apply gJ [1,2] h [2];exact j8
theorem aeY:aC 112 [.sl []] (.dK [ajB, .bool false]):=by
 apply cG [(0, .sl [])] Tryz.func112;apply aQ [0,2];apply cQ [0,2,9]
 refine W.cond ⟨_,rfl,fun h=>?_,fun h=>?_⟩
 ·exact eY [2,3]
 ·simp at h
theorem JT(hT:aC 255 [Po x] (aJ (ga f) L))(hl:L.length<1000000)(hk:k<=L.length)(hb:∀i,i<k -> ∃z:Int,aC 110 [GA f (nth L i), .ag (G9 y an ad bn bd)] (aB z)∧¬0<z)(hc:k<L.length -> ∃z:Int,aC 110 [GA f (nth L k), .ag (G9 y an ad bn bd)] (aB z)∧0<z) :
  aC 206 [Po x, .ag (G9 y an ad bn bd)] (.dK [if k<L.length then GA f (nth L k)else ajB, .bool (decide (k<L.length))]):=by
 simp only [G9]at *;apply cG [(0,Po x),(1, .ag (G9 y an ad bn bd))] Tryz.func206;apply cN [0,3,4];apply cK hT [3,4,9,10,11];apply W.block
 refine W.bB (fun m σ=>∃(i v3 v4:Nat),bF σ [(3, .ptr 3 v3 0 0),(4, .ptr 4 v4 0 0),(9,aJ (ga f) L),(10,aB L.length),(11,aB i)] fun rows clk=>rows 3=some ⟨v3,54,9,[G9 y an ad bn bd]⟩∧rows 4=some ⟨v4,54,9,[[.nil, .bool false, .nil, .bool false, .nil, .bool false, .nil, .bool false, .nil]]⟩∧i+m=k) k ?_ ?_
 ·exact⟨_, .refl,0,_,_,_,_,rfl,aG,aG,aA⟩
 rintro m _ ⟨i,v3,v4,rows,clk,rfl,bK,dW,him⟩;simp only [G9]at bK;apply cN [3,4,9,10,11,12]
 refine W.cond ⟨_,rfl,fun h=>?_,fun h=>?_⟩
 ·have hi:i<L.length:=by simp at h;omega
  apply (iE);apply fJ hi [3,4,7,9,10,11]
  by_cases tM:i<k
  ·obtain⟨z,hz,oY⟩:=hb i tM;simp only [GA,ga,List.cons_append,List.nil_append]at hz;apply oQ bK hz;apply bT [3,4,7,9,10,11,18]
   refine W.cond ⟨_,rfl,fun h=>?_,fun h=>?_⟩
   ·exfalso;simp at h;exact oY h
   apply W.skip;refine W.bY (fun K hK=>?_);simp (disch:=omega) [gw];refine hK _ ⟨m-1,_,aD _ [3,4,9,10,11],aA,i+1,_,_,_,_,rfl,by simp [bK],by simp [dW],aA⟩
  ·have atx:i=k:=(by omega);subst atx;obtain⟨z,hz,oY⟩:=hc hi;simp only [GA,ga,List.cons_append,List.nil_append]at hz;rw [if_pos hi,decide_eq_true hi];apply oQ bK hz;apply bT [3,4,7,9,10,11,18]
   refine W.cond ⟨_,rfl,fun h=>?_,fun h=>?_⟩
   ·apply fJ dW [4,5];exact j8
   ·exfalso;simp at h;omega
 ·have hi:i=L.length:=by simp at h;omega
  have hkL:k=L.length:=aA;rw [if_neg aA,decide_eq_false aA];apply (jV);exact FM dW [4,5]
abbrev NoA:PV:=.ag [.sl [], .sl [], .sl [], .bool false, .sl [], .bool false, .sl [], .bool false, .sl [], .bool false]
theorem aau{c d:List ZX}(hT:aC 119 [PI x] (aJ (qa f c) L))(hl:L.length<1000000)(hk:k<=L.length)(hb:∀i,i<k -> ∃z:Int,aC 48 [QA f c (nth L i), .ag (eT y d an ad bn bd)] (aB z)∧¬0<z)(hc:k<L.length -> ∃z:Int,aC 48 [QA f c (nth L k), .ag (eT y d an ad bn bd)] (aB z)∧0<z) :
  aC 54 [PI x, .ag (eT y d an ad bn bd)] (.dK [if k<L.length then QA f c (nth L k)else NoA, .bool (decide (k<L.length))]):=by
 simp only [eT]at *;apply cG [(0,PI x),(1, .ag (eT y d an ad bn bd))] Tryz.func54;apply gJ [0,3,4] hT [3,4,6];apply eE [3,4,6,11,12]
 refine W.bB (fun m σ=>∃(i v3 v4:Nat),bF σ [(3, .ptr 3 v3 0 0),(4, .ptr 4 v4 0 0),(6,aJ (qa f c) L),(11,aB L.length),(12,aB i)] fun rows clk=>rows 3=some ⟨v3,49,10,[eT y d an ad bn bd]⟩∧rows 4=some ⟨v4,49,10,[[.nil, .nil, .nil, .bool false, .nil, .bool false, .nil, .bool false, .nil, .bool false]]⟩∧i+m=k) k ?_ ?_
 ·exact⟨_, .refl,0,_,_,_,_,rfl,aG,aG,aA⟩
 rintro m _ ⟨i,v3,v4,rows,clk,rfl,bK,dW,him⟩;simp only [eT]at bK;apply cN [3,4,6,11,12,13]
 refine W.cond ⟨_,rfl,fun h=>?_,fun h=>?_⟩
 ·have hi:i<L.length:=by simp at h;omega
  apply oR [3,4,6,7,11,12]
  by_cases tM:i<k
  ·obtain⟨z,hz,oY⟩:=hb i tM;simp only [QA,qa,List.cons_append,List.nil_append]at hz;apply W.sd;apply j7 hi bK hz;apply bT [3,4,6,7,11,12,21]
   refine W.cond ⟨_,rfl,fun h=>?_,fun h=>?_⟩
   ·exfalso;simp at h;exact oY h
   apply W.skip;refine W.bY (fun K hK=>?_);simp (disch:=omega) [gw];refine hK _ ⟨m-1,_,aD _ [3,4,6,11,12],aA,i+1,_,_,_,_,rfl,by simp [bK],by simp [dW],aA⟩
  ·have atx:i=k:=(by omega);subst atx;obtain⟨z,hz,oY⟩:=hc hi;simp only [QA,qa,List.cons_append,List.nil_append]at hz;rw [if_pos hi,decide_eq_true hi];apply W.sd;apply j7 hi bK hz;apply bT [3,4,6,7,11,12,21]
   refine W.cond ⟨_,rfl,fun h=>?_,fun h=>?_⟩
   ·apply qY hi dW [4,5];exact j8
   ·exfalso;simp at h;omega
 ·have hi:i=L.length:=by simp at h;omega
  rw [if_neg aA,decide_eq_false aA];apply (jV);exact FM dW [4,5]
def nxo:Option (ZX × Rat × Rat)->PV
 | none => .dK [ajB, .bool false]
 | some e => .dK [.ag (gg e), .bool true]
structure CpC(s n s' n':Nat):Prop where
 hE:(max s s'+max n n'+1)*2*4^max n n'<=4500000000
 h1:(qb (qb s n) n+n+6)*4^n<=4500000000
 h2:qb s n<=1000000
 h3:(qb (qb s' n') n'+n'+6)*4^n'<=4500000000
 h4:qb s' n'<=1000000
 hS:max s s'<=20000
 h20:max n n'<=20
section
variable {s n u s' n' u':Nat} {f h:ZX} {p q:Rat × Rat} (a:AN s n u f p) (b:AN s' n' u' h q) (c:CpC s n s' n')
include a b c
theorem AN.aty:aC 110 [GA f p,GA h q] (aB (cu (bN f p) (bN h q))):=
 have E:Eu (max s s') (max n n'):=⟨c.h20,by have:=a.I.s1;omega,c.hE⟩
 a.cmp b (E.amI (a.I.ch.bz.mono aA aA) (b.I.ch.bz.mono aA aA)) fun _=>⟨_,_,RA b.I f c.h3 (by have:=c.h4;omega),c.h4⟩
theorem AN.aFA(hu:u<=2200000)(hu':u'<=2200000):aC 48 [QA f (aO f) p,QA h (aO h) q] (aB (cu (bN f p) (bN h q))):=
 aFu a.I b.I (S:=max s s') (N:=max n n') aA aA aA aA c.h20 (by have h1:=a.I.lay.hs;have h2:=b.I.lay.hs;have h3:2^s<=2^max s s':=Nat.pow_le_pow_right aF aA;have h4:2^s'<=2^max s s':=Nat.pow_le_pow_right aF aA;omega) c.hS c.hE c.h1 (by have:=c.h2;omega) a.A b.A (u:=max u u') (a.q1.mono aA) (a.q2.mono aA) (b.q1.mono aA) (b.q2.mono aA) aA
end
def nxt(f:ZX)(L:List (Rat × Rat))(k:Nat):Option (ZX × Rat × Rat):=if k<L.length then some (f,nth L k)else none
theorem cp2:CpC (qb 18 6) 6 (qb 18 6) 6:=⟨aF,aF,aF,aF,aF,aF,aF⟩
end Go.Proofs.YtiobceocpabjdaaGreat
namespace Go.Proofs.YtiobceocpabjdaaGreat
open Go Pm
variable {i v:Nat}{X:List RE}{α:Type}{b z:Bool}{e:Int}{C:List CE}
abbrev aeZ:List PV:=[.nil, .nil, .nil, .bool false, .nil, .bool false, .nil, .bool false, .nil, .bool false]
section
variable (fq:Nat->ZX) (cq:Nat->List ZX) (L:Nat->List (Rat × Rat))
def sK(i:Nat)(x:RE):RE:=⟨x.t,x.z,x.q,x.w,false,emap (qa (fq i) (cq i)) (L i),true⟩
def nY(l:List RE):Nat->List RE
 | 0=>l
 | i+1=>(nY l i).set i (sK fq cq L i (nth l i))
def z8(k:Nat->Nat):Option Nat->List PV
 | none=>aeZ
 | some j=>qa (fq j) (cq j) (nth (L j) (k j))
def ajK(k:Nat->Nat)(o:Option Nat):PV:=.ag (z8 fq cq L k o)
end
section
variable {fq:Nat->ZX} {cq:Nat->List ZX} {L:Nat->List (Rat × Rat)} {l:List RE}
theorem qV:∀i,(nY fq cq L l i).length=l.length
 | 0=>rfl
 | i+1=>by rw [nY,List.length_set,qV i]
theorem RC:∀i j,i<=j->nth (nY fq cq L l i) j=nth l j
 | 0,_,_=>rfl
 | i+1,j,h=>by rw [nY,nth,List.getElem?_set_ne aA];exact RC i j aA
theorem am9(h:i<l.length):nth (nY fq cq L l (i+1)) i=sK fq cq L i (nth l i):=by rw [nY,nth,List.getElem?_set_self (by rw [qV];exact h)];rfl
theorem ae0(h:i<l.length)(hy:(nth l i).y=false)(hs:(nth l i).s=emap (qa (fq i) (cq i)) (L i))(ha:(nth l i).a=true):nY fq cq L l (i+1)=nY fq cq L l i:=by
 have e:sK fq cq L i (nth l i)=nth (nY fq cq L l i) i:=by rw [RC i i (Nat.le_refl _),sK,<-hs,<-ha,<-hy]
 rw [nY,e];refine List.ext_getElem? fun j=>?_
 by_cases hj:i=j
 ·subst hj;rw [List.getElem?_set_self (by rw [qV];exact h)];unfold nth;rw [List.getElem?_eq_getElem (by rw [qV];exact h)];rfl
 ·rw [List.getElem?_set_ne hj]
end
theorem aav(h:i<X.length){g:α->List PV}{s:List α}:iP (emap fW X) i 7 [aJ g s]=emap fW (X.set i ⟨(nth X i).t,(nth X i).z,(nth X i).q,(nth X i).w,false,emap g s,(nth X i).a⟩):=by simp [iP,emap,List.map_set,h,fL,sc,aJ,bZ h]
theorem JU(h:i<X.length):iP (emap fW X) i 8 [.bool b]=emap fW (X.set i ⟨(nth X i).t,(nth X i).z,(nth X i).q,(nth X i).w,(nth X i).y,(nth X i).s,b⟩):=by simp [iP,emap,List.map_set,h,fL,bZ h]
theorem V0[Inhabited α]{X:List α}{y:α}(h:i<X.length):nth (X.set i y) i=y:=by rw [nth,List.getElem?_set_self h];rfl
set_option maxHeartbeats 2000000 in
theorem V1{l:List RE}{y:List Int}{d:List ZX}{an ad bn bd:Int}{fq:Nat->ZX}{cq:Nat->List ZX}{L:Nat->List (Rat × Rat)}{k:Nat->Nat}{B:Nat->Option Nat}
  (hl:l.length<1048576)
  (hT:∀i,i<l.length->(nth l i).a=false->aC 119 [.sl (szc (nth l i).z (nth l i).q)] (aJ (qa (fq i) (cq i)) (L i)))
  (hA:∀i,i<l.length->(nth l i).a=true->(nth l i).y=false∧(nth l i).s=emap (qa (fq i) (cq i)) (L i))
  (hL:∀i,(L i).length<1000000) (hk:∀i,k i<=(L i).length)
  (hb:∀i,i<l.length -> ∀j,j<k i -> ∃z:Int,aC 48 [QA (fq i) (cq i) (nth (L i) j), .ag (eT y d an ad bn bd)] (aB z)∧¬0<z)
  (hc:∀i,i<l.length->k i<(L i).length -> ∃z:Int,aC 48 [QA (fq i) (cq i) (nth (L i) (k i)), .ag (eT y d an ad bn bd)] (aB z)∧0<z)
  (hB0:B 0=none) (hB1:∀i,i<l.length->k i=(L i).length->B (i+1)=B i) (hB2:∀i,i<l.length->k i<(L i).length->B i=none->B (i+1)=some i)
  (hB3:∀i j,i<l.length->k i<(L i).length->B i=some j -> ∃z:Int,aC 48 [QA (fq i) (cq i) (nth (L i) (k i)),QA (fq j) (cq j) (nth (L j) (k j))] (aB z)∧B (i+1)=if z<0 then some i else some j) :
  AK env.P 50 (some (0,l.length)) [.ag (eT y d an ad bn bd)] 85 9 (emap fW l) (emap fW (nY fq cq L l l.length)) (.dK [ajK fq cq L k (B l.length), .bool (B l.length).isSome]):=by
 simp only [eT]at *;refine IP (E:=env) (fun _=>0) [(1, .ag (eT y d an ad bn bd))] Tryz.func50 rfl cT cT (show 2<=70 by decide) (by intro q;simp) ?_;intro id ver fY aaw hr;simp only [hdP];simp only [eT];apply fK [0,3,4] [0,3,4,6];apply cN [0,3,4,6,7];apply fJ hr [0,3,4,6,7,12,13];apply W.block
 refine W.bB (fun m σ=>∃(i v3 v4 v6:Nat),bF σ [(0, .own (id+1000000) ver 0 l.length),(3, .ptr 3 v3 0 0),(4, .ptr 4 v4 0 0),(6, .ptr 6 v6 0 0),(7, .bool (B i).isSome),(12,aB l.length),(13,aB i)] fun rows clk=>i+m=l.length ∧
  rows (id+1000000)=some ⟨ver,85,9,emap fW (nY fq cq L l i)⟩∧rows 3=some ⟨v3,49,10,[eT y d an ad bn bd]⟩∧rows 4=some ⟨v4,49,10,[aeZ]⟩∧rows 6=some ⟨v6,49,10,[z8 fq cq L k (B i)]⟩ ∧ ∀j,j≠id->rows (j+1000000)=fY (j+1000000)) l.length ?_ ?_
 ·exact⟨_, .refl,0,_,_,_,_,_,by rw [hB0];rfl,aA,by simp [hr,nY],aG,aG,by simp [hB0,z8],fun j hj=>by simp⟩
 rintro m _ ⟨i,v3,v4,v6,rows,clk,rfl,him,qW,bK,dW,mT,iR⟩;simp only [eT]at bK;apply cN [0,3,4,6,7,12,13,14]
 refine W.cond ⟨_,rfl,fun h=>?_,fun h=>?_⟩
 ·have hi:i<l.length:=by simp at h;omega
  have hi0:i<(nY fq cq L l i).length:=by rw [qV];exact hi
  have WZ:i<(nY fq cq L l (i+1)).length:=by rw [qV];exact hi
  have g0:=RC (fq:=fq) (cq:=cq) (L:=L) (l:=l) i i (Nat.le_refl _);have g1:=am9 (fq:=fq) (cq:=cq) (L:=L) hi;apply W.skip
  refine W.dS (fun σ=>bF σ [(0, .own (id+1000000) ver 0 l.length),(3, .ptr 3 v3 0 0),(4, .ptr 4 v4 0 0),(6, .ptr 6 v6 0 0),(7, .bool (B (i+1)).isSome),(12,aB l.length),(13,aB i)] fun rows clk =>
   rows (id+1000000)=some ⟨ver,85,9,emap fW (nY fq cq L l (i+1))⟩∧rows 3=some ⟨v3,49,10,[eT y d an ad bn bd]⟩∧rows 4=some ⟨v4,49,10,[aeZ]⟩∧rows 6=some ⟨v6,49,10,[z8 fq cq L k (B (i+1))]⟩ ∧ ∀j,j≠id->rows (j+1000000)=fY (j+1000000)) ?_ ?_
  ·apply aQ [0,3,4,6,7,8,12,13]
   refine W.iS (fun σ=>bF σ [(0, .own (id+1000000) ver 0 l.length),(3, .ptr 3 v3 0 0),(4, .ptr 4 v4 0 0),(6, .ptr 6 v6 0 0),(7, .bool (B i).isSome),(8,aB i),(12,aB l.length),(13,aB i)] fun rows clk =>
    rows (id+1000000)=some ⟨ver,85,9,emap fW (nY fq cq L l (i+1))⟩∧rows 3=some ⟨v3,49,10,[eT y d an ad bn bd]⟩∧rows 4=some ⟨v4,49,10,[aeZ]⟩∧rows 6=some ⟨v6,49,10,[z8 fq cq L k (B i)]⟩ ∧ ∀j,j≠id->rows (j+1000000)=fY (j+1000000)) ?_ ?_
   ·apply W.sr;simp (disch:=omega) [gw,qW,fL,hi0,hi,g0];apply cO [0,3,4,6,7,8,12,13,21]
    refine W.cond ⟨_,rfl,fun h=>?_,fun h=>?_⟩
    ·have ha:(nth l i).a=false:=(by simpa using h);have hT:=hT i hi ha;refine W.bY fun K hK=>?_;simp (disch:=omega) [gw,qW,fL,hi0,hi,g0];have e7:=aav hi0 (g:=qa (fq i) (cq i)) (s:=L i);rw [g0]at e7;apply j9 hT;simp (disch:=omega) [gw,qW,fL,hi0,hi,g0,e7,JU,V0];refine hK _ ⟨_,aD _ [0,3,4,6,7,8,12,13],_,_,rfl,?_,by simp [bK],by simp [dW],by simp [mT],fun j hj=>by simp [hj,iR j hj]⟩;simp [nY,sK,ha,JU,V0,hi0]
    ·have ha:(nth l i).a=true:=(by simpa using h);obtain⟨hy,hs⟩:=hA i hi ha;apply W.skip;exact⟨_,aD _ [0,3,4,6,7,8,12,13],rows,clk,rfl,by rw [ae0 hi hy hs ha];exact qW,bK,dW,mT,iR⟩
   clear qW bK dW mT iR rows clk;rintro _ ⟨rows,clk,rfl,qW,bK,dW,mT,iR⟩;simp only [eT]at bK;apply W.sr;simp (disch:=omega) [gw,qW,fL,WZ,hi,g1,sK,sc];apply cO [0,3,4,6,7,8,12,13,41,42];apply W.block
   refine W.bB (fun m σ=>∃(j:Nat),bF σ [(0, .own (id+1000000) ver 0 l.length),(3, .ptr 3 v3 0 0),(4, .ptr 4 v4 0 0),(6, .ptr 6 v6 0 0),(7, .bool (B i).isSome),(8,aB i),(12,aB l.length),(13,aB i),(41,aB (L i).length),(42,aB j)] fun rows clk=>j+m=k i ∧
    rows (id+1000000)=some ⟨ver,85,9,emap fW (nY fq cq L l (i+1))⟩∧rows 3=some ⟨v3,49,10,[eT y d an ad bn bd]⟩∧rows 4=some ⟨v4,49,10,[aeZ]⟩∧rows 6=some ⟨v6,49,10,[z8 fq cq L k (B i)]⟩ ∧ ∀j,j≠id->rows (j+1000000)=fY (j+1000000)) (k i) ?_ ?_
   ·exact⟨_, .refl,0,_,_,rfl,aA,qW,bK,dW,mT,iR⟩
   clear qW bK dW mT iR rows clk;rintro m2 _ ⟨j,rows,clk,rfl,hjm,qW,bK,dW,mT,iR⟩;simp only [eT]at bK;have hLi:=hL i;have hki:=hk i;apply cN [0,3,4,6,7,8,12,13,41,42,43]
   refine W.cond ⟨_,rfl,fun h=>?_,fun h=>?_⟩
   ·have hj:j<(L i).length:=(by simp at h;omega);apply oR [0,3,4,6,7,8,9,12,13,41,42];apply W.sr;simp (disch:=omega) [gw,qW,fL,WZ,hi,g1,sK,sc,hj];apply cO [0,3,4,6,7,8,10,12,13,41,42]
    by_cases hjk:j<k i
    ·obtain⟨z,hz,oY⟩:=hb i hi j hjk;simp only [QA,qa,List.cons_append,List.nil_append]at hz;apply oQ bK hz;apply bT [0,3,4,6,7,8,12,13,41,42,56]
     refine W.cond ⟨_,rfl,fun h=>?_,fun h=>?_⟩
     ·exfalso;simp at h;exact oY h
     apply W.skip;refine W.bY (fun K hK=>?_);simp (disch:=omega) [gw];refine hK _ ⟨m2-1,_,aD _ [0,3,4,6,7,8,12,13,41,42],aA,j+1,_,_,rfl,aA,by simp [qW],by simp [bK],by simp [dW],by simp [mT],fun j hj=>by simp [iR j hj]⟩
    ·have aFD:j=k i:=(by omega);subst aFD;obtain⟨z,hz,oY⟩:=hc i hi hj;simp only [QA,qa,List.cons_append,List.nil_append]at hz;apply oQ bK hz;apply bT [0,3,4,6,7,10,12,13,56];apply (arD)<;>intro h
     rotate_left
     ·exfalso;simp at h;omega
     apply W.seq;cases hBi:B i with
     | none =>
      have hB':=hB2 i hi hj hBi;rw [hBi]at mT;simp only [z8]at mT;apply fJ hBi [0,3,4,6,7,10,12,13,64];apply (arD)<;>intro h
      rotate_left
      ·exact absurd h aG
      refine W.bY fun K hK=>?_;apply eV mT;refine hK _ ?_;clear hK K;apply (gK);exact⟨_,aD _ [0,3,4,6,7,12,13],_,_,by rw [hB'];rfl,by simp [qW],by simp [bK],by simp [dW],by simp [hB',z8],fun j hj=>by simp [iR j hj]⟩
     | some q =>
      obtain⟨z2,xF,hB'⟩:=hB3 i q hi hj hBi;rw [hBi]at mT;simp only [z8,qa,List.cons_append,List.nil_append]at mT;simp only [QA,qa,List.cons_append,List.nil_append]at xF;apply qE hBi mT xF;apply bT [0,3,4,6,7,10,12,13,64]
      refine W.cond ⟨_,rfl,fun h=>?_,fun h=>?_⟩
      ·have h:z2<0:=(by simpa using h);rw [if_pos h]at hB';refine W.bY fun K hK=>?_;apply eV mT;refine hK _ ?_;clear hK K;apply (gK);exact⟨_,aD _ [0,3,4,6,7,12,13],_,_,by rw [hB'];rfl,by simp [qW],by simp [bK],by simp [dW],by simp [hB',z8],fun j hj=>by simp [iR j hj]⟩
      ·have h:¬z2<0:=(by simpa using h);rw [if_neg h]at hB';apply W.skip;apply (gK);exact⟨_,aD _ [0,3,4,6,7,12,13],_,_,by rw [hB'];rfl,by simp [qW],by simp [bK],by simp [dW],by simp [hB',z8,mT],fun j hj=>by simp [iR j hj]⟩
   ·have hj:j=(L i).length:=(by simp at h;omega);have hB':=hB1 i hi aA;apply (gK);exact⟨_,aD _ [0,3,4,6,7,12,13],rows,clk,by rw [hB'];rfl,qW,bK,dW,by rw [hB'];exact mT,iR⟩
  clear qW bK dW mT iR rows clk;rintro _ ⟨rows,clk,rfl,qW,bK,dW,mT,iR⟩;refine W.bY (fun K hK=>?_);simp (disch:=omega) [gw];refine hK _ ⟨m-1,_,aD _ [0,3,4,6,7,12,13],aA,i+1,_,_,_,_,_,rfl,aA,qW,bK,dW,mT,iR⟩
 ·have hi:i=l.length:=by simp at h;omega
  subst hi;apply (gK);cases hBi:B l.length with
  | none =>
   rw [hBi]at mT;simp only [z8]at mT;apply qY mT dW [4,5];apply W.ret;simp [go,UA,lJ,ajK,z8,qC,qW,hBi];exact PF fun j hj=>iR j hj
  | some q =>
   rw [hBi]at mT;simp only [z8,qa,List.cons_append,List.nil_append]at mT;apply qY mT dW [4,5];apply W.ret;simp [go,UA,lJ,ajK,z8,qC,qW,hBi];exact PF fun j hj=>iR j hj
structure A9 where
 y:List (List PV)
 s:Bool
 d:List (List PV)
 s':Bool
 d':List (List PV)
 u:Bool
 e:List (List PV)
 u':Bool
 e':List (List PV)
variable {n r t:A9}
def A9.no:A9:=⟨[],false,[],false,[],false,[],false,[]⟩
instance:Inhabited A9:=⟨A9.no⟩
def b9(x:A9):List PV:=[.sl x.y, .bool x.s, .sl x.d, .bool x.s', .sl x.d', .bool x.u, .sl x.e, .bool x.u', .sl x.e']
theorem gQ(x:A9):b9 x = [.sl x.y, .bool x.s, .sl x.d, .bool x.s', .sl x.d', .bool x.u, .sl x.e, .bool x.u', .sl x.e']:=rfl
theorem ana(x:A9):(b9 x).all bE=true:=rfl
@[simp] theorem avR{l:List A9}:bP 9 (emap b9 l)=True:=cS fun _=>rfl
@[simp] theorem atA{e n:Nat}{l:List A9}:dG (some ⟨v,e,n,emap b9 l⟩)=True:=cM ana
structure WE where
 t:Tg
 p:List Int
 w:Int
 k:Bool
 o:Bool
 f:A9
variable {l M:List WE}
instance:Inhabited WE:=⟨⟨default,[],0,false,false,default⟩⟩
def KF(w:WE):List PV:=[aB w.t.k,aB w.t.a,aB w.t.b,aB w.t.c,aB w.t.d,Po w.p,aB w.w, .bool w.k, .bool w.o, .sl w.f.y, .bool w.f.s, .sl w.f.d, .bool w.f.s', .sl w.f.d', .bool w.f.u, .sl w.f.e, .bool w.f.u', .sl w.f.e']
theorem kU(w:WE):KF w = [aB w.t.k,aB w.t.a,aB w.t.b,aB w.t.c,aB w.t.d,Po w.p,aB w.w, .bool w.k, .bool w.o, .sl w.f.y, .bool w.f.s, .sl w.f.d, .bool w.f.s', .sl w.f.d', .bool w.f.u, .sl w.f.e, .bool w.f.u', .sl w.f.e']:=rfl
theorem ajM(w:WE):(KF w).all bE=true:=rfl
@[simp] theorem atB:bP 18 (emap KF l)=True:=cS fun _=>rfl
@[simp] theorem apQ{e n:Nat}:dG (some ⟨v,e,n,emap KF l⟩)=True:=cM ajM
def co(b:Bool)(n:A9)(z:Bool)(L:List WE)(e:Int):List PV:=[.bool b,sc (!b) n.y, .bool n.s,sc (!b) n.d, .bool n.s',sc (!b) n.d', .bool n.u,sc (!b) n.e, .bool n.u',sc (!b) n.e',sc z (emap KF L),aB e]
theorem jX(b:Bool)(n:A9)(z:Bool)(L:List WE)(e:Int):co b n z L e = [.bool b,sc (!b) n.y, .bool n.s,sc (!b) n.d, .bool n.s',sc (!b) n.d', .bool n.u,sc (!b) n.e, .bool n.u',sc (!b) n.e',sc z (emap KF L),aB e]:=rfl
theorem iA(b:Bool)(n:A9)(z:Bool)(L:List WE)(e:Int):∀p∈co b n z L e,bE p=true:=List.all_eq_true.1 (by simp only [jX,List.all_cons,IJ,List.all_nil];rfl)
attribute [simp] aoy
theorem z9{L:List WE}:oA 44 [] 95 12 (co b n z L e) (co b n z L e) (aB e):=by refine jM (E:=env) (fun _=>0) [] Tryz.func44 rfl cT cT (show 1<=7 by decide) (by intro q;simp) ?_;intro id ver rows clk gT;apply aQ [0];simp only [jX]at gT |-;apply fJ gT [2];apply W.ret;simp [go,gT]
theorem w5{L:List WE}(hL:aC 112 [.sl [b9 n]] (.dK [.ag (b9 n), .bool true])):oA 49 [] 95 12 (co true n z L e) (co true n z L e) (.ag (b9 n)):=by
 refine jM (E:=env) (fun _=>0) [] Tryz.func49 rfl cT cT (show 1<=23 by decide) (by intro q;simp) ?_;intro id ver rows clk gT;simp only [gQ]at hL |-;simp only [jX,Bool.not_true,alW]at gT |-;apply cN [0,2];apply fJ gT [0,2,9]
 refine W.cond ⟨_,rfl,fun h=>?_,fun h=>?_⟩
 ·simp at h
 apply W.skip;apply oQ gT hL;apply sS gT [2,3];apply aQ [2];apply W.ret;simp [go,gT]
def JV(R:WE->Bool × A9)(w:WE):WE:=if w.k=true then w else⟨w.t,w.p,w.w,true,(R w).1,(R w).2⟩
theorem JW{m:A9}{L:List WE}{R:WE->Bool × A9}(hl:L.length<1000000)(hz:z=true->L = [])
  (hN:oA 49 [] 95 12 (co b n z L e) (co b n z L e) (.ag (b9 m)))
  (hR:∀w∈L,w.k=false->aC 206 [Po w.p, .ag (b9 m)] (.dK [.ag (b9 (R w).2), .bool (R w).1])) :
  oA 120 [] 95 12 (co b n z L e) (co b n false (L.map (JV R)) e) (.dK []):=by
 refine jM (E:=env) (fun _=>0) [] Tryz.func120 rfl cT cT (show 1<=40 by decide) (by intro q;simp) ?_;intro id ver fY aaw gT;have GY:=iA b n z L e;simp only [gQ]at hN hR;apply aQ [0,2];apply TG gT;refine n6 hN rfl rfl GY GY gT ?_;apply bT [0,2,3];refine W.nil 2 2 179 18 aG aF fun K hK=>?_;refine W.lw [0,2,3] hK ?_;clear hK K;simp;apply W.seq
 refine W.fI (fun σ=>∃(s:PV) (v2 v3:Nat),bF σ [(0, .ptr (id+1000000) ver 0 0),(2, .own 2 v2 0 0),(3, .ptr 3 v3 0 0),(11,s),(12,aB L.length),(13,aB 0)] fun rows clk=>(0<L.length->s=aJ KF L)∧rows 2=some ⟨v2,179,18,[]⟩∧rows (id+1000000)=some ⟨ver,95,12,[co b n z L e]⟩∧(∀j,j≠id->rows (j+1000000)=fY (j+1000000))∧rows 3=some ⟨v3,54,9,[b9 m]⟩) (fun K hK=>?_) ?_
 ·cases z
  ·simp (disch:=omega) [gw,gT,jX];exact hK _ _ (aD _ [0,2,3,11,12,13]) ⟨_,_,_,_,_,rfl,fun _=>rfl,aG,by simp [jX],by intro j hj;simp [hj],by simp [gQ]⟩
  ·obtain rfl:=hz rfl;simp (disch:=omega) [gw,gT,jX];exact hK _ _ (aD _ [0,2,3,11,12,13]) ⟨_,_,_,_,_,rfl,aG,aG,by simp [jX],by intro j hj;simp [hj],by simp [gQ]⟩
 clear gT;rintro _ ⟨s,v2,v3,rows,clk,rfl,hs,bS,gT,iR,bK⟩;apply W.block
 refine W.bB (fun k σ=>∃(i v2 v3:Nat),bF σ [(0, .ptr (id+1000000) ver 0 0),(2, .own 2 v2 0 i),(3, .ptr 3 v3 0 0),(11,s),(12,aB L.length),(13,aB i)] fun rows clk=>i+k=L.length∧rows 2=some ⟨v2,179,18,emap KF ((L.map (JV R)).take i)⟩∧rows (id+1000000)=some ⟨ver,95,12,[co b n z L e]⟩∧(∀j,j≠id->rows (j+1000000)=fY (j+1000000))∧rows 3=some ⟨v3,54,9,[b9 m]⟩) L.length ?_ ?_
 ·exact⟨_,aD _ [0,2,3,11,12,13],0,_,_,_,_,rfl,aA,by simp [bS,emap],gT,iR,bK⟩
 clear bS gT iR bK rows clk v2 v3;rintro k _ ⟨i,v2,v3,rows,clk,rfl,tM,bS,gT,iR,bK⟩;apply cN [0,2,3,11,12,13,14]
 refine W.cond ⟨_,rfl,fun h=>?_,fun h=>?_⟩
 ·have hi:i<L.length:=by simp at h;omega
  obtain rfl:=hs aA;have o7:=hR _ (bO hi);have fA:(L.map (JV R)).take (i+1)=(L.map (JV R)).take i ++ [JV R (nth L i)]:=by rw [List.take_succ_eq_append_getElem (by simpa using hi),bZ hi];simp
  have hlen:((L.map (JV R)).take i).length=i:=by simp;omega
  generalize hT':(L.map (JV R)).take (i+1)=T' at *;generalize (L.map (JV R)).take i=T at *;generalize hw:nth L i=w at *;obtain⟨y',C0⟩:∃y',JV R w=y':=⟨_,rfl⟩
  rw [C0]at fA;apply (iE);apply W.sr;simp (disch:=omega) [gw,hi,hw,kU];apply cO [0,2,3,5,11,12,13]
  refine W.iS (fun σ=>∃(v5:Nat),bF σ [(0, .ptr (id+1000000) ver 0 0),(2, .own 2 v2 0 i),(3, .ptr 3 v3 0 0),(5, .ptr 5 v5 0 0),(11,aJ KF L),(12,aB L.length),(13,aB i)] fun rows clk=>rows 2=some ⟨v2,179,18,emap KF T⟩∧rows 5=some ⟨v5,179,18,[KF y']⟩∧rows (id+1000000)=some ⟨ver,95,12,[co b n z L e]⟩∧(∀j,j≠id->rows (j+1000000)=fY (j+1000000))∧rows 3=some ⟨v3,54,9,[b9 m]⟩) ?_ ?_
  ·apply aQ [0,2,3,5,11,12,13,19]
   refine W.cond ⟨_,rfl,fun h=>?_,fun h=>?_⟩
   ·have hk:w.k=false:=(by simpa using h);have K5:=o7 hk;rw [JV,if_neg (by simp [hk])]at C0;generalize R w=r at *;apply W.sr;simp (disch:=omega) [gw,bK,gQ];apply jW K5;apply cO [0,2,3,5,11,12,13];refine W.bY (fun K hK=>?_);simp (disch:=omega) [gw];exact hK _ ⟨_,aD _ [0,2,3,5,11,12,13],_,_,_,rfl,by simp [bS],by simp [<-C0,kU],by simp [gT],by intro j hj;simp [hj,iR],by simp [bK,gQ]⟩
   ·have hk:w.k=true:=(by simpa using h);rw [JV,if_pos hk]at C0;subst C0;apply W.skip;exact⟨_,aD _ [0,2,3,5,11,12,13],_,_,_,rfl,by simp [bS],by simp [kU],by simp [gT],by intro j hj;simp [hj,iR],by simp [bK]⟩
  clear bS gT iR bK rows clk;rintro _ ⟨v5,rows,clk,rfl,bS,dX,gT,iR,bK⟩;rw [kU]at dX;refine W.bY (fun K hK=>?_);simp (disch:=omega) [gw,dX,bS,hlen];refine W.lw [0,2,3,11,12,13] hK ?_;clear hK K;simp;refine W.bY (fun K hK=>?_);simp (disch:=omega) [gw];refine hK _ ⟨k-1,_,aD _ [0,2,3,11,12,13],aA,i+1,_,_,_,_,rfl,aA,by rw [hT',fA];simp [bS,emap,hlen,kU],by simp [gT],by intro j hj;simp [hj,iR],by simp [bK]⟩
 ·have hi:i=L.length:=by simp at h;omega
  subst hi;have hT:(L.map (JV R)).take L.length=L.map (JV R):=List.take_of_length_le aG;rw [hT]at bS;apply (gK);refine W.freeze 2 (by simp [bS]) fun K hK=>?_;simp [bS];refine hK _ ?_;clear hK K;simp only [jX]at gT |-;refine W.bY fun K hK=>?_;apply eV gT;refine hK _ ?_;simp [go,gT];rw [hT];exact⟨rfl,fun j hj=>by simp [hj,iR]⟩
theorem NR[Inhabited α]{l:List α}(h:i<l.length):l.take (i+1)=l.take i ++ [nth l i]:=by rw [List.take_succ_eq_append_getElem h,bZ h]
def CI(l:List WE):List A9:=(l.filter WE.o).map WE.f
theorem acB(l:List WE):(CI l).length<=l.length:=by simp only [CI,List.length_map];exact List.length_filter_le _ _
theorem JX{ok:Bool}{L:List WE}(hl:M.length<1000000)
  (hk:oA 120 [] 95 12 (co b n z L e) (co b n false M e) (.dK []))
  (hL:aC 112 [aJ b9 (CI M)] (.dK [.ag (b9 r), .bool ok])) :
  oA 51 [] 95 12 (co b n z L e) (co b n false M e) (.dK [.ag (b9 r), .bool ok]):=by
 refine jM (E:=env) (fun _=>0) [] Tryz.func51 rfl cT cT (show 1<=30 by decide) (by intro q;simp) ?_;intro id ver fY aaw gT;have GY:=iA b n z L e;have V2:=iA b n false M e;simp only [gQ r]at hL |-;apply aQ [0,2];apply TG gT;refine n6 hk rfl rfl GY V2 (by simp [gT]) ?_;apply bT [0,2];apply aQ [0,2,4];refine W.nil 4 4 54 9 aG aF fun K hK=>?_;refine W.lw [0,2,4] hK ?_;clear hK K;simp;apply W.seq
 refine W.fI (fun σ=>∃(v2 v4:Nat),bF σ [(2, .ptr 2 v2 0 0),(4, .own 4 v4 0 0),(12,aJ KF M),(13,aB M.length),(14,aB 0)] fun rows clk=>rows 4=some ⟨v4,54,9,[]⟩∧rows 2=some ⟨v2,54,9,[[.nil, .bool false, .nil, .bool false, .nil, .bool false, .nil, .bool false, .nil]]⟩∧rows (id+1000000)=some ⟨ver,95,12,[co b n false M e]⟩∧(∀j,j≠id->rows (j+1000000)=fY (j+1000000))) (fun K hK=>?_) ?_
 ·simp (disch:=omega) [gw,jX];exact hK _ _ (aD _ [2,4,12,13,14]) ⟨_,_,_,_,rfl,aG,aG,by simp [jX],by intro j hj;simp [hj]⟩
 clear gT;rintro _ ⟨v2,v4,rows,clk,rfl,dW,bS,gT,iR⟩;apply W.block
 refine W.bB (fun k σ=>∃(i v2 v4:Nat),bF σ [(2, .ptr 2 v2 0 0),(4, .own 4 v4 0 (CI (M.take i)).length),(12,aJ KF M),(13,aB M.length),(14,aB i)] fun rows clk=>i+k=M.length∧rows 4=some ⟨v4,54,9,emap b9 (CI (M.take i))⟩∧rows 2=some ⟨v2,54,9,[[.nil, .bool false, .nil, .bool false, .nil, .bool false, .nil, .bool false, .nil]]⟩∧rows (id+1000000)=some ⟨ver,95,12,[co b n false M e]⟩∧(∀j,j≠id->rows (j+1000000)=fY (j+1000000))) M.length ?_ ?_
 ·exact⟨_,aD _ [2,4,12,13,14],0,v2,v4,rows,clk,by simp [CI],aA,by simp [dW,emap,CI],bS,gT,iR⟩
 clear bS gT iR dW rows clk v2 v4;rintro k _ ⟨i,v2,v4,rows,clk,rfl,tM,dW,bS,gT,iR⟩;apply cN [2,4,12,13,14,15]
 refine W.cond ⟨_,rfl,fun h=>?_,fun h=>?_⟩
 ·have hi:i<M.length:=by simp at h;omega
  have fA:CI (M.take (i+1))=CI (M.take i)++if (nth M i).o=true then [(nth M i).f]else []:=by rw [NR hi];simp only [CI,List.filter_append,List.map_append,List.filter_cons,List.filter_nil];split<;>rfl
  have hlen:(CI (M.take i)).length<=i:=Nat.le_trans (acB _) (by simp;omega);generalize hT':CI (M.take (i+1))=T' at *;generalize CI (M.take i)=T at *;generalize hw:nth M i=w at *;apply W.skip
  refine W.dS (fun σ=>∃(v4:Nat),bF σ [(2, .ptr 2 v2 0 0),(4, .own 4 v4 0 T'.length),(12,aJ KF M),(13,aB M.length),(14,aB i)] fun rows clk=>rows 4=some ⟨v4,54,9,emap b9 T'⟩∧rows 2=some ⟨v2,54,9,[[.nil, .bool false, .nil, .bool false, .nil, .bool false, .nil, .bool false, .nil]]⟩∧rows (id+1000000)=some ⟨ver,95,12,[co b n false M e]⟩∧(∀j,j≠id->rows (j+1000000)=fY (j+1000000))) ?_ ?_
  ·apply W.sr;simp (disch:=omega) [gw,hi,hw,kU];apply cO [2,4,6,12,13,14];apply aQ [2,4,6,12,13,14,19]
   refine W.cond ⟨_,rfl,fun h=>?_,fun h=>?_⟩
   ·have ho:w.o=true:=(by simpa using h);rw [if_pos ho]at fA;refine W.bY (fun K hK=>?_);simp (disch:=omega) [gw,dW];exact hK _ ⟨_,aD _ [2,4,12,13,14],_,_,_,by rw [show T'.length=T.length+1 by rw [fA];simp];rfl,by rw [fA];simp [emap,gQ],by simp [bS],by simp [gT],by intro j hj;simp [hj,iR]⟩
   ·have ho:w.o=false:=(by simpa using h);rw [if_neg (by simp [ho]),List.append_nil]at fA;subst fA;apply W.skip;exact⟨_,aD _ [2,4,12,13,14],_,_,_,rfl,by simp [dW],by simp [bS],by simp [gT],by intro j hj;simp [hj,iR]⟩
  clear dW bS gT iR rows clk v4;rintro _ ⟨v4,rows,clk,rfl,dW,bS,gT,iR⟩;refine W.bY (fun K hK=>?_);simp (disch:=omega) [gw];refine hK _ ⟨k-1,_,aD _ [2,4,12,13,14],aA,i+1,_,_,_,_,by rw [hT'];rfl,aA,by rw [hT'];exact dW,bS,gT,iR⟩
 ·have hi:i=M.length:=by simp at h;omega
  subst hi;rw [List.take_length]at dW |-;apply (gK);refine W.freeze 4 (by simp [dW]) fun K hK=>?_;simp [dW];refine hK _ ?_;clear hK K;apply oQ bS hL;apply sS bS [2,3];apply W.ret;simp [go,gT];exact fun j hj=>by simp [hj,iR]
def WE.c(w:WE):CE:=⟨w.t,false,w.p,w.w⟩
theorem ae1{L:List WE}{M:List CE}(hl:L.length<1000000)(hz:z=true->L = [])
  (hS:aC 35 [aJ i9 (L.map WE.c)] (aJ i9 M)) :
  oA 47 [] 95 12 (co b n z L e) (co b n z L e) (aJ i9 M):=by
 refine jM (E:=env) (fun _=>0) [] Tryz.func47 rfl cT cT (show 1<=23 by decide) (by intro q;simp) ?_;intro id ver fY aaw gT;apply fK [0] [0,3];refine W.nil 3 3 82 7 aG aF fun K hK=>?_;refine W.lw [0,3] hK ?_;clear hK K;simp;apply W.seq
 refine W.fI (fun σ=>∃(s:PV) (v3:Nat),bF σ [(3, .own 3 v3 0 0),(9,s),(10,aB L.length),(11,aB 0)] fun rows clk=>(0<L.length->s=aJ KF L)∧rows 3=some ⟨v3,82,7,[]⟩∧rows (id+1000000)=some ⟨ver,95,12,[co b n z L e]⟩∧(∀j,j≠id->rows (j+1000000)=fY (j+1000000))) (fun K hK=>?_) ?_
 ·cases z
  ·simp (disch:=omega) [gw,gT,jX];exact hK _ _ (aD _ [3,9,10,11]) ⟨_,_,_,_,rfl,fun _=>rfl,aG,by simp [gT,jX],by intro j hj;simp [hj]⟩
  ·obtain rfl:=hz rfl;simp (disch:=omega) [gw,gT,jX];exact hK _ _ (aD _ [3,9,10,11]) ⟨_,_,_,_,rfl,aG,aG,by simp [gT,jX],by intro j hj;simp [hj]⟩
 clear gT;rintro _ ⟨s,v3,rows,clk,rfl,hs,bK,gT,iR⟩;apply W.block
 refine W.bB (fun k σ=>∃(i v3:Nat),bF σ [(3, .own 3 v3 0 i),(9,s),(10,aB L.length),(11,aB i)] fun rows clk=>i+k=L.length∧rows 3=some ⟨v3,82,7,emap i9 ((L.map WE.c).take i)⟩∧rows (id+1000000)=some ⟨ver,95,12,[co b n z L e]⟩∧(∀j,j≠id->rows (j+1000000)=fY (j+1000000))) L.length ?_ ?_
 ·exact⟨_,aD _ [3,9,10,11],0,v3,rows,clk,rfl,aA,by simp [bK,emap],gT,iR⟩
 clear bK gT iR rows clk v3;rintro k _ ⟨i,v3,rows,clk,rfl,tM,bK,gT,iR⟩;apply cN [3,9,10,11,12]
 refine W.cond ⟨_,rfl,fun h=>?_,fun h=>?_⟩
 ·have hi:i<L.length:=by simp at h;omega
  obtain rfl:=hs aA;have fA:(L.map WE.c).take (i+1)=(L.map WE.c).take i ++ [(nth L i).c]:=by rw [List.take_succ_eq_append_getElem (by simpa using hi),bZ hi];simp
  have hlen:((L.map WE.c).take i).length=i:=by simp;omega
  generalize hT':(L.map WE.c).take (i+1)=T' at *;generalize (L.map WE.c).take i=T at *;generalize hw:nth L i=w at *;apply (iE);apply W.sr;simp (disch:=omega) [gw,hi,hw,kU];apply cO [3,5,9,10,11];refine W.bY (fun K hK=>?_);simp (disch:=omega) [gw,bK,hlen];refine W.lw [3,9,10,11] hK ?_;clear hK K;simp;refine W.bY (fun K hK=>?_);simp (disch:=omega) [gw];refine hK _ ⟨k-1,_,aD _ [3,9,10,11],aA,i+1,_,_,_,rfl,aA,by rw [hT',fA];simp [emap,aJ,hlen,iY,WE.c],by simp [gT],by intro j hj;simp [hj,iR]⟩
 ·have hi:i=L.length:=by simp at h;omega
  subst hi;have hT:(L.map WE.c).take L.length=L.map WE.c:=List.take_of_length_le aG;rw [hT]at bK;apply (gK);refine W.freeze 3 (by simp [bK]) fun K hK=>?_;simp [bK];rw [hT];refine hK _ ?_;clear hK K;apply cK hS [2];apply W.ret;simp [go,gT];exact fun j hj=>by simp [hj,iR]
def evc(w:WE):List PV:=[aB w.t.k,aB w.t.a,aB w.t.b,aB w.t.c,aB w.t.d, .sl w.f.y, .bool w.f.s, .sl w.f.d, .bool w.f.s', .sl w.f.d', .bool w.f.u, .sl w.f.e, .bool w.f.u', .sl w.f.e']
theorem RD(w:WE):evc w = [aB w.t.k,aB w.t.a,aB w.t.b,aB w.t.c,aB w.t.d, .sl w.f.y, .bool w.f.s, .sl w.f.d, .bool w.f.s', .sl w.f.d', .bool w.f.u, .sl w.f.e, .bool w.f.u', .sl w.f.e']:=rfl
theorem ajO(w:WE):(evc w).all bE=true:=rfl
@[simp] theorem atC:bP 14 (emap evc l)=True:=cS fun _=>rfl
@[simp] theorem apR{e n:Nat}:dG (some ⟨v,e,n,emap evc l⟩)=True:=cM ajO
theorem aax{L:List WE}
  (hN:oA 51 [] 95 12 (co b n z L e) (co b n false M e) (.dK [.ag (b9 r), .bool false])) :
  oA 52 [] 95 12 (co b n z L e) (co b n false M e) (.sl []):=by
 refine jM (E:=env) (fun _=>0) [] Tryz.func52 rfl cT cT (show 1<=52 by decide) (by intro q;simp) ?_;intro id ver rows clk gT;have GY:=iA b n z L e;have V2:=iA b n false M e;simp only [gQ]at hN;apply aQ [0];apply TG gT;refine n6 hN rfl rfl GY V2 (by simp [gT]) ?_;apply bT [0,3,4];apply cQ [0,3,16]
 refine W.cond ⟨_,rfl,fun h=>?_,fun h=>?_⟩
 ·apply aQ [2];refine W.TF 2 (.sl []) aG rfl fun K hK=>?_;refine W.lw [2] hK ?_;clear hK K;simp;apply W.ret;simp [go,gT];exact fun j hj h=>absurd h hj
 ·simp at h
def yT(c:WE->Int)(l:List WE):List WE:=l.filter fun w=>w.o&&decide (c w=0)
theorem acC(c:WE->Int)(l:List WE):(yT c l).length<=l.length:=List.length_filter_le _ _
theorem aay{L:List WE}{c:WE->Int}(hl:M.length<1000000)
  (hN:oA 51 [] 95 12 (co b n z L e) (co b n false M e) (.dK [.ag (b9 r), .bool true]))
  (hC:∀w∈M,w.o=true->aC 110 [.ag (b9 w.f), .ag (b9 r)] (aB (c w)))
  (hL:∀w∈M,w.o=true->c w=0->aC 112 [.sl [b9 w.f]] (.dK [.ag (b9 w.f), .bool true])) :
  oA 52 [] 95 12 (co b n z L e) (co b n false M e) (aJ evc (yT c M)):=by
 refine jM (E:=env) (fun _=>0) [] Tryz.func52 rfl cT cT (show 1<=52 by decide) (by intro q;simp) ?_;intro id ver fY aaw gT;have GY:=iA b n z L e;have V2:=iA b n false M e;simp only [gQ]at hN hC hL;apply aQ [0];apply TG gT;refine n6 hN rfl rfl GY V2 (by simp [gT]) ?_;apply bT [0,3,4];apply cQ [0,3,16]
 refine W.cond ⟨_,rfl,fun h=>?_,fun h=>?_⟩
 ·simp at h
 apply W.skip;apply aQ [0,3,5];refine W.nil 5 5 115 14 aG aF fun K hK=>?_;refine W.lw [0,3,5] hK ?_;clear hK K;simp;apply W.seq
 refine W.fI (fun σ=>∃(v3 v5:Nat),bF σ [(3, .ptr 3 v3 0 0),(5, .own 5 v5 0 0),(20,aJ KF M),(21,aB M.length),(22,aB 0)] fun rows clk=>rows 5=some ⟨v5,115,14,[]⟩∧rows 3=some ⟨v3,54,9,[[.sl r.y, .bool r.s, .sl r.d, .bool r.s', .sl r.d', .bool r.u, .sl r.e, .bool r.u', .sl r.e']]⟩∧rows (id+1000000)=some ⟨ver,95,12,[co b n false M e]⟩∧(∀j,j≠id->rows (j+1000000)=fY (j+1000000))) (fun K hK=>?_) ?_
 ·simp (disch:=omega) [gw,jX];exact hK _ _ (aD _ [3,5,20,21,22]) ⟨_,_,_,_,rfl,aG,aG,by simp [jX],by intro j hj;simp [hj]⟩
 clear gT;rintro _ ⟨v3,v5,rows,clk,rfl,dX,bK,gT,iR⟩;apply W.block
 refine W.bB (fun k σ=>∃(i v3 v5:Nat),bF σ [(3, .ptr 3 v3 0 0),(5, .own 5 v5 0 (yT c (M.take i)).length),(20,aJ KF M),(21,aB M.length),(22,aB i)] fun rows clk=>i+k=M.length∧rows 5=some ⟨v5,115,14,emap evc (yT c (M.take i))⟩∧rows 3=some ⟨v3,54,9,[[.sl r.y, .bool r.s, .sl r.d, .bool r.s', .sl r.d', .bool r.u, .sl r.e, .bool r.u', .sl r.e']]⟩∧rows (id+1000000)=some ⟨ver,95,12,[co b n false M e]⟩∧(∀j,j≠id->rows (j+1000000)=fY (j+1000000))) M.length ?_ ?_
 ·exact⟨_,aD _ [3,5,20,21,22],0,v3,v5,rows,clk,by simp [yT],aA,by simp [dX,emap,yT],bK,gT,iR⟩
 clear bK dX gT iR rows clk v3 v5;rintro k _ ⟨i,v3,v5,rows,clk,rfl,tM,dX,bK,gT,iR⟩;apply cN [3,5,20,21,22,23]
 refine W.cond ⟨_,rfl,fun h=>?_,fun h=>?_⟩
 ·have hi:i<M.length:=by simp at h;omega
  have fA:yT c (M.take (i+1))=yT c (M.take i)++if ((nth M i).o&&decide (c (nth M i)=0))=true then [nth M i]else []:=by rw [NR hi];simp only [yT,List.filter_append,List.filter_cons,List.filter_nil]
  have hlen:(yT c (M.take i)).length<=i:=Nat.le_trans (acC _ _) (by simp;omega);have hC':=hC _ (bO hi);have hL':=hL _ (bO hi);generalize hT':yT c (M.take (i+1))=T' at *;generalize yT c (M.take i)=T at *;generalize hw:nth M i=w at *;generalize c w=u at *;apply W.skip
  refine W.dS (fun σ=>∃(v3 v5:Nat),bF σ [(3, .ptr 3 v3 0 0),(5, .own 5 v5 0 T'.length),(20,aJ KF M),(21,aB M.length),(22,aB i)] fun rows clk=>rows 5=some ⟨v5,115,14,emap evc T'⟩∧rows 3=some ⟨v3,54,9,[[.sl r.y, .bool r.s, .sl r.d, .bool r.s', .sl r.d', .bool r.u, .sl r.e, .bool r.u', .sl r.e']]⟩∧rows (id+1000000)=some ⟨ver,95,12,[co b n false M e]⟩∧(∀j,j≠id->rows (j+1000000)=fY (j+1000000))) ?_ ?_
  ·apply W.sr;simp (disch:=omega) [gw,hi,hw,kU];apply cO [3,5,7,20,21,22]
   refine W.fI (fun σ=>∃(v7:Nat),bF σ [(3, .ptr 3 v3 0 0),(5, .own 5 v5 0 T.length),(7, .ptr 7 v7 0 0),(20,aJ KF M),(21,aB M.length),(22,aB i),(34, .bool (w.o&&decide (u=0)))] fun rows clk=>rows 7=some ⟨v7,179,18,[KF w]⟩∧rows 5=some ⟨v5,115,14,emap evc T⟩∧rows 3=some ⟨v3,54,9,[[.sl r.y, .bool r.s, .sl r.d, .bool r.s', .sl r.d', .bool r.u, .sl r.e, .bool r.u', .sl r.e']]⟩∧rows (id+1000000)=some ⟨ver,95,12,[co b n false M e]⟩∧(∀j,j≠id->rows (j+1000000)=fY (j+1000000))) (fun K hK=>?_) ?_
   ·cases ho:w.o
    ·apply eV bK;exact hK _ _ (aD _ [3,5,7,20,21,22,34]) ⟨_,_,_,by rw [ho];rfl,by simp [kU,ho],by simp [dX],by simp [bK],by simp [gT],by intro j hj;simp [hj,iR]⟩
    ·apply O1 bK (hC' ho);exact hK _ _ (aD _ [3,5,7,20,21,22,34]) ⟨_,_,_,by rw [ho,Bool.true_and];rfl,by simp [kU,ho],by simp [dX],by simp [bK],by simp [gT],by intro j hj;simp [hj,iR]⟩
   clear dX bK gT iR rows clk;rintro _ ⟨v7,rows,clk,rfl,yP,dX,bK,gT,iR⟩
   refine W.cond ⟨_,rfl,fun h=>?_,fun h=>?_⟩
   ·have ho:w.o=true∧u=0:=(by simpa using h);have hL2:=hL' ho.1 ho.2;rw [if_pos h]at fA;rw [kU]at yP;apply oQ yP hL2;apply bT [3,5,7,8,20,21,22];refine W.bY (fun K hK=>?_);simp (disch:=omega) [gw,yP,dX];refine aY (fun p hp=>by rcases hp with (h|h|h|h|h)|h|h|h|h|h|h|h|h|h<;>subst h<;>simp) ?_;apply j1 yP dX;exact hK _ ⟨_,aD _ [3,5,20,21,22],_,_,_,_,by rw [show T'.length=T.length+1 by rw [fA];simp];rfl,by rw [fA];simp [emap,RD],by simp [bK],by simp [gT],by intro j hj;simp [hj,iR]⟩
   ·rw [if_neg (by rw [h];decide),List.append_nil]at fA;subst fA;apply W.skip;exact⟨_,aD _ [3,5,20,21,22],_,_,_,_,rfl,dX,bK,gT,iR⟩
  clear dX bK gT iR rows clk v5 v3;rintro _ ⟨v3,v5,rows,clk,rfl,dX,bK,gT,iR⟩;refine W.bY (fun K hK=>?_);simp (disch:=omega) [gw];refine hK _ ⟨k-1,_,aD _ [3,5,20,21,22],aA,i+1,_,_,_,_,by rw [hT'];rfl,aA,by rw [hT'];exact dX,bK,gT,iR⟩
 ·have hi:i=M.length:=by simp at h;omega
  subst hi;rw [List.take_length]at dX |-;apply (gK);refine W.freeze 5 (by simp [dX]) fun K hK=>?_;simp [dX];refine hK _ ?_;clear hK K;apply aQ [2];apply W.ret;simp [go,gT];exact fun j hj=>by simp [hj,iR]
def WE.new(s:CE):WE:=⟨s.t,s.p,s.w,false,false,A9.no⟩
def wek(z:Bool)(w:WE):List PV:=[aB w.t.k,aB w.t.a,aB w.t.b,aB w.t.c,aB w.t.d,Po w.p,aB w.w, .bool w.k, .bool w.o,sc z w.f.y, .bool w.f.s,sc z w.f.d, .bool w.f.s',sc z w.f.d', .bool w.f.u,sc z w.f.e, .bool w.f.u',sc z w.f.e']
theorem acD(z:Bool)(w:WE):wek z w = [aB w.t.k,aB w.t.a,aB w.t.b,aB w.t.c,aB w.t.d,Po w.p,aB w.w, .bool w.k, .bool w.o,sc z w.f.y, .bool w.f.s,sc z w.f.d, .bool w.f.s',sc z w.f.d', .bool w.f.u,sc z w.f.e, .bool w.f.u',sc z w.f.e']:=rfl
theorem acE{later:Bool}{L:List WE}{S:List CE}{G:CE->WE}(hl:S.length<1000000)(hSz:∀s∈S,s.z=false)
  (hS:aC 35 [aJ i9 C] (aJ i9 S)) (hL:aC 112 [.sl [b9 t]] (.dK [.ag (b9 t), .bool true]))
  (hF:later=false -> ∀s∈S,G s=WE.new s)
  (hT:later=true -> ∀s∈S,∃y:Bool,(y=true->(G s).f=A9.no)∧oA 191 [.ag (i9 s), .ag (b9 t)] 95 12 (co b n z L e) (co b n z L e) (.ag (wek y (G s)))) :
  oA 109 [.ag (b9 t), .bool later,aJ i9 C] 95 12 (co b n z L e) (co true t false (S.map G) e) (.dK []):=by
 simp only [gQ]at hL hT |-;refine jM (E:=env) (fun _=>0) [(1, .ag [.sl t.y, .bool t.s, .sl t.d, .bool t.s', .sl t.d', .bool t.u, .sl t.e, .bool t.u', .sl t.e']),(2, .bool later),(3,aJ i9 C)] Tryz.func109 rfl cT cT (show 4<=47 by decide) (by intro q;simp) ?_;intro id ver fY aaw gT;have GY:=iA b n z L e;apply fK [0,2,3,5] [0,2,3,5,8];refine W.nil 8 8 179 18 aG aF fun K hK=>?_;refine W.lw [0,2,3,5,8] hK ?_;clear hK K;simp;apply W.seq
 refine W.fI (fun σ=>∃(v5 v8:Nat),bF σ [(0, .ptr (id+1000000) ver 0 0),(2, .bool later),(5, .ptr 5 v5 0 0),(8, .own 8 v8 0 0),(13,aJ i9 S),(14,aB S.length),(15,aB 0)] fun rows clk=>rows 8=some ⟨v8,179,18,[]⟩∧rows 5=some ⟨v5,54,9,[[.sl t.y, .bool t.s, .sl t.d, .bool t.s', .sl t.d', .bool t.u, .sl t.e, .bool t.u', .sl t.e']]⟩∧rows (id+1000000)=some ⟨ver,95,12,[co b n z L e]⟩∧(∀j,j≠id->rows (j+1000000)=fY (j+1000000))) (fun K hK=>?_) ?_
 ·apply O1 gT hS;exact hK _ _ (aD _ [0,2,5,8,13,14,15]) ⟨_,_,_,_,rfl,aG,aG,by simp [gT],by intro j hj;simp⟩
 clear gT;rintro _ ⟨v5,v8,rows,clk,rfl,uZ,dX,gT,iR⟩;apply W.block
 refine W.bB (fun k σ=>∃(i v5 v8:Nat),bF σ [(0, .ptr (id+1000000) ver 0 0),(2, .bool later),(5, .ptr 5 v5 0 0),(8, .own 8 v8 0 i),(13,aJ i9 S),(14,aB S.length),(15,aB i)] fun rows clk=>i+k=S.length∧rows 8=some ⟨v8,179,18,emap KF ((S.map G).take i)⟩∧rows 5=some ⟨v5,54,9,[[.sl t.y, .bool t.s, .sl t.d, .bool t.s', .sl t.d', .bool t.u, .sl t.e, .bool t.u', .sl t.e']]⟩∧rows (id+1000000)=some ⟨ver,95,12,[co b n z L e]⟩∧(∀j,j≠id->rows (j+1000000)=fY (j+1000000))) S.length ?_ ?_
 ·exact⟨_,aD _ [0,2,5,8,13,14,15],0,v5,v8,rows,clk,rfl,aA,by simp [uZ,emap],dX,gT,iR⟩
 clear uZ dX gT iR rows clk v5 v8;rintro k _ ⟨i,v5,v8,rows,clk,rfl,tM,uZ,dX,gT,iR⟩;apply cN [0,2,5,8,13,14,15,16]
 refine W.cond ⟨_,rfl,fun h=>?_,fun h=>?_⟩
 ·have hi:i<S.length:=by simp at h;omega
  have hF':=fun h=>hF h _ (bO hi);have hT':=fun h=>hT h _ (bO hi);have hz':=hSz _ (bO hi);have fA:(S.map G).take (i+1)=(S.map G).take i ++ [G (nth S i)]:=by rw [List.take_succ_eq_append_getElem (by simpa using hi),bZ hi];simp
  have hlen:((S.map G).take i).length=i:=by simp;omega
  generalize hU':(S.map G).take (i+1)=U' at *;generalize (S.map G).take i=U at *;generalize hw:nth S i=w at *;generalize G w=g at *;rw [iY,hz',alW]at hT';apply (iE);apply W.sr;simp (disch:=omega) [gw,hi,hw,iY,hz',alW];apply cO [0,2,5,8,10,13,14,15];apply aQ [0,2,5,8,10,11,13,14,15]
  refine W.iS (fun σ=>∃(v11:Nat) (y:Bool),bF σ [(0, .ptr (id+1000000) ver 0 0),(2, .bool later),(5, .ptr 5 v5 0 0),(8, .own 8 v8 0 i),(11, .ptr 11 v11 0 0),(13,aJ i9 S),(14,aB S.length),(15,aB i)] fun rows clk=>rows 11=some ⟨v11,179,18,[[aB g.t.k,aB g.t.a,aB g.t.b,aB g.t.c,aB g.t.d,Po g.p,aB g.w, .bool g.k, .bool g.o,sc y g.f.y, .bool g.f.s,sc y g.f.d, .bool g.f.s',sc y g.f.d', .bool g.f.u,sc y g.f.e, .bool g.f.u',sc y g.f.e']]⟩∧(y=true->g.f=A9.no)∧rows 8=some ⟨v8,179,18,emap KF U⟩∧rows 5=some ⟨v5,54,9,[[.sl t.y, .bool t.s, .sl t.d, .bool t.s', .sl t.d', .bool t.u, .sl t.e, .bool t.u', .sl t.e']]⟩∧rows (id+1000000)=some ⟨ver,95,12,[co b n z L e]⟩∧(∀j,j≠id->rows (j+1000000)=fY (j+1000000))) ?_ ?_
  ·apply aQ [0,2,5,8,10,11,13,14,15,21]
   refine W.cond ⟨_,rfl,fun h=>?_,fun h=>?_⟩
   ·subst h;obtain⟨y,hy,hk⟩:=hT' rfl;rw [acD]at hk;refine W.bY fun K hK=>?_;apply eV dX;refine n6 hk rfl aG GY GY (by simp [gT]) ?_;apply (cV);exact hK _ ⟨_,aD _ [0,2,5,8,11,13,14,15],_,y,_,_,rfl,by simp [acD],hy,by simp [uZ],by simp [dX],aG,by intro j hj;simp [hj,iR]⟩
   ·subst h;obtain rfl:=hF' rfl;apply W.skip;exact⟨_,aD _ [0,2,5,8,11,13,14,15],_,true,_,_,rfl,by simp [WE.new,A9.no];rfl,by simp [WE.new],by simp [uZ],by simp [dX],by simp [gT],by intro j hj;simp [hj,iR]⟩
  clear uZ dX gT iR rows clk;rintro _ ⟨v11,y,rows,clk,rfl,asW,hgf,uZ,dX,gT,iR⟩;refine W.bY (fun K hK=>?_);simp (disch:=omega) [gw,asW,uZ,hlen];refine W.lw [0,2,5,8,13,14,15] hK ?_;clear hK K;simp;refine W.bY (fun K hK=>?_);simp (disch:=omega) [gw];refine hK _ ⟨k-1,_,aD _ [0,2,5,8,13,14,15],aA,i+1,_,_,_,_,rfl,aA,?_,by simp [dX],by simp [gT],by intro j hj;simp [hj,iR]⟩;rw [hU',fA]
  cases y
  ·simp [emap,aJ,hlen,kU,szc]
  ·have:=hgf rfl;simp [emap,aJ,hlen,kU,this,A9.no,szc]
 ·have hi:i=S.length:=by simp at h;omega
  subst hi;have hTT:(S.map G).take S.length=S.map G:=List.take_of_length_le aG;rw [hTT]at uZ;apply (gK);refine W.freeze 8 (by simp [uZ]) fun K hK=>?_;simp [uZ];rw [hTT];refine hK _ ?_;clear hK K;simp only [jX]at gT |-;apply oQ dX hL;apply sS gT [0,8];refine W.bY fun K hK=>?_;apply eV gT;refine hK _ ?_;simp [go,gT];exact⟨rfl,fun j hj=>by simp [hj,iR]⟩
theorem NS{L:List WE}
  (hY:oA 109 [.ag (b9 t), .bool false,aJ i9 C] 95 12 (co false n z L e) (co true t false M e) (.dK [])) :
  oA 42 [.ag (b9 t),aJ i9 C] 95 12 (co false n z L e) (co true t false M e) (.dK []):=by
 simp only [gQ]at hY |-;refine jM (E:=env) (fun _=>0) [(1, .ag [.sl t.y, .bool t.s, .sl t.d, .bool t.s', .sl t.d', .bool t.u, .sl t.e, .bool t.u', .sl t.e']),(2,aJ i9 C)] Tryz.func42 rfl cT cT (show 3<=23 by decide) (by intro q;simp) ?_;intro id ver fY aaw gT;have GY:=iA false n z L e;have V2:=iA true t false M e;simp only [jX]at gT hY GY V2 |-;apply aQ [0,2,4];refine W.K1 fun K hK=>?_;apply eV gT;refine OX hY rfl rfl GY V2 (by simp [gT]) ?_;apply (cV);refine aY (by refine⟨?_,?_,?_⟩<;>kernel_rfl) ?_;apply (cV);refine hK _ ?_;simp [go,gT];exact fun j hj=>by simp [hj]
end Go.Proofs.YtiobceocpabjdaaGreat
namespace Go.Proofs.YtiobceocpabjdaaGreat
open Go Pm
open ZX hiding N W
variable {k n:Nat}{p:ZX}{r:Rat}{T:List Rat}
section
variable {U V:Rat->Prop} (hU:∀s t,U s->s<=t->U t) (hV:∀s t,V s->s<=t->V t)
include hU hV
theorem aaz:0<cu U V ↔ ∃t,V t∧¬U t:=by
 unfold cu
 split
 ·rename_i h;obtain⟨t1,h1,h2⟩:=h;refine⟨fun h=>absurd h aF,fun⟨t2,h3,h4⟩=>?_⟩
  by_cases h5:t1<=t2
  ·exact absurd (hU _ _ h1 h5) h4
  ·exact absurd (hV _ _ h3 aT) h2
 ·split
  ·rename_i h;exact⟨fun _=>h,fun _=>by decide⟩
  ·rename_i h;exact⟨fun h1=>absurd h1 aF,fun h1=>absurd h1 h⟩
omit hU hV in
theorem ajP:cu U V<0 ↔ ∃t,U t∧¬V t:=by
 unfold cu
 split
 ·rename_i h;exact⟨fun _=>h,fun _=>by decide⟩
 ·rename_i h;refine⟨fun h1=>?_,fun h1=>absurd h1 h⟩;split at h1<;>exact absurd h1 aF
theorem anb:cu U V<0↔0<cu V U:=by rw [ajP,aaz hV hU]
end
structure Idx(f:ZX)(L:List (Rat × Rat))(U:Rat->Prop)(k:Nat):Prop where
 le:k<=L.length
 lt:∀i,i<k->¬0<cu (bN f (nth L i)) U
 gt:k<L.length->0<cu (bN f (nth L k)) U
theorem Idx.mono{f:ZX}{L:List (Rat × Rat)}{U U':Rat->Prop}{k':Nat}(hf:∀i,i<L.length -> ∀s t,bN f (nth L i) s->s<=t->bN f (nth L i) t)(hU:∀s t,U s->s<=t->U t)(hU':∀s t,U' s->s<=t->U' t)(h:Idx f L U k)(h':Idx f L U' k')(hs:∀t,U' t->U t):k<=k':=Nat.not_lt.1 fun hk=>by
 have hl:k'<L.length:=by have:=h.le;omega
 obtain⟨t,h1,h2⟩:=(aaz (hf _ hl) hU').1 (h'.gt hl);exact h.lt k' hk ((aaz (hf _ hl) hU).2 ⟨t,hs t h1,h2⟩)
def unx:PV->PV
 | .kJ l => .sl l
 | p=>p
theorem anc{c:Cx}{p:PV}{v:Value}(h:aK c p v):aK c (unx p) v:=by
 cases p with
 | kJ l=>exact abe h
 | _=>exact h
theorem FD.kJ{P:Program}{g:FuncId}{args:List PV}{e:TypeId}{core iC:List PV}{r:PV}(h:FD P g (args.map unx) e n core iC r):FD P g args e n core iC r:=by
 intro id ver rows clk h1 h2 h3;obtain⟨h4,h5⟩:=h id ver rows clk h1 h2 h3;refine⟨h4,fun w0 S0 c vs G hI hr gS gE hG=>h5 w0 S0 c vs G hI hr gS ?_ hG⟩;refine bA.cI (by simpa using gE.length) fun i a b ha hb=>?_;cases i with
 | zero =>
  simp at ha;subst ha;obtain⟨b',jH,vF⟩:=gE.get (k:=0) (a:=.ptr id ver 0 0) aG;rw [hb]at jH;cases jH;exact vF
 | succ i =>
  simp only [List.getElem?_cons_succ,List.getElem?_map,Option.map_eq_some_iff]at ha;obtain⟨a',RN,rfl⟩:=ha;obtain⟨b',jH,vF⟩:=gE.get (k:=i+1) (a:=a') (by simpa using RN);rw [hb]at jH;cases jH;exact anc vF
theorem NT:([.bool false, .nil, .bool false, .nil, .bool false, .nil, .bool false, .nil, .bool false, .nil, .nil,aB 0]:List PV)=co false A9.no true [] 0:=rfl
theorem RF{n1 d1 n2 d2 an ad bn bd:Int}{x y:List Int}{C1 C2:List ZX}{t r:A9}{L:List WE}
  (h1:aC 12 [aB 0,aB 1] (R2 n1 d1)) (h2:aC 41 [R2 n1 d1] (AP x C1 n1 d1)) (h3:aC 29 [AP x C1 n1 d1] (.ag (b9 t)))
  (h4:aC 97 [.sl [[aB (-1)],[aB 1]]] (PI [-1,1])) (h5:aC 100 [PI [-1,1]] (Po [-1,1]))
  (hB:oA 42 [.ag (b9 t),aJ i9 [⟨⟨0,0,0,0,0⟩,false,[-1,1], -1⟩]] 95 12 (co false A9.no true [] 0) (co true t false L 0) (.dK []))
  {M:List WE} (hX:oA 51 [] 95 12 (co true t false L 0) (co true t false M 0) (.dK [.ag (b9 r), .bool true]))
  (h6:aC 20 [.ag (b9 r)] (.ag (eT y C2 an ad bn bd))) (h7:aC 12 [aB 1,aB 1] (R2 n2 d2)) (h8:aC 19 [.ag (eT y C2 an ad bn bd),R2 n2 d2] (aB 0)) :
  aC 45 [] (.bool true):=by
 have hp0:=iA false A9.no true [] 0;have hp1:=iA true t false L 0;have WO:=iA true t false M 0;have hE:oA 44 [] 95 12 (co true t false M 0) (co true t false M 0) (aB 0):=z9;have hq:aJ i9 [⟨⟨0,0,0,0,0⟩,false,[-1,1], -1⟩] = .sl [[aB 0,aB 0,aB 0,aB 0,aB 0,Po [-1,1],aB (-1)]]:=rfl;rw [hq]at hB;simp only [gQ,eT,A9.no]at *;apply cG [] Tryz.func45;apply fK [] [1];apply n7 h1 h2;apply fV h3 h4;apply o9 h5;refine aY (fun p hp=>by rcases hp with (h|h)|h<;>subst h<;>simp) ?_;apply (cV);refine n6 (FD.kJ (args:=[.ag [.sl t.y, .bool t.s, .sl t.d, .bool t.s', .sl t.d', .bool t.u, .sl t.e, .bool t.u', .sl t.e'], .kJ [[aB 0,aB 0,aB 0,aB 0,aB 0,Po [-1,1],aB (-1)]]]) hB) rfl rfl hp0 hp1 (by simp [NT,A9.no]) ?_;apply bT [1];apply (tI);refine n6 hX rfl rfl hp1 WO aG ?_;apply bT [1,2,3];apply n7 h6 h7;apply o9 h8;refine n6 hE rfl rfl WO WO aG ?_;exact gI [0]
theorem ae2{q:Rat}(h:q.num.natAbs<=n):Ab q (n:Rat):=by
 have hd:(1:Rat)<=((q.den:Int):Rat):=fU (by have:=q.den_pos;omega)
 have hq:((q.num:Int):Rat)=q*((q.den:Int):Rat):=by
  have h1:q=(q.num:Rat)/((q.den:Int):Rat):=by rw [<-Rat.divInt_eq_div,Rat.num_divInt_den]
  have h2:=Rat.div_mul_cancel (a:=(q.num:Rat)) (b:=((q.den:Int):Rat)) aT;rw [<-h1]at h2;exact h2.symm
 have h3:((q.num:Int):Rat)<=(((n:Int):Int):Rat):=Rat.intCast_le_intCast.2 aA;have h4:(((-(n:Int)):Int):Rat)<=((q.num:Int):Rat):=Rat.intCast_le_intCast.2 aA;rw [Rat.intCast_neg]at h4;have h5:(((n:Int):Int):Rat)=(n:Rat):=Rat.intCast_natCast n;rw [h5]at h3 h4;have h6:(0:Rat)<=(n:Rat):=Rat.natCast_nonneg;generalize ((q.num:Int):Rat)=u at *;generalize ((q.den:Int):Rat)=v at *;generalize (n:Rat)=m at *;have h7:=Rat.mul_le_mul_of_nonneg_left hd h6
 constructor
 ·refine Rat.not_lt.1 fun h=>?_;have:=Rat.mul_le_mul_of_nonneg_left hd (show 0 <= -m-q by grind);grind
 ·refine Rat.not_lt.1 fun h=>?_;have:=Rat.mul_le_mul_of_nonneg_left hd (show 0<=q-m by grind);grind
theorem GL(t:Rat):eG t≠0:=(VJ t).ne
theorem Bg.eG{a b r:Rat}(gU:a<=b)(h:r<a∨b<r):Bg a b (Go.Proofs.YtiobceocpabjdaaGreat.eG r):=by
 have e1:=fun s=>QN s r;unfold Go.Proofs.YtiobceocpabjdaaGreat.eG at e1 |-;have hd:(0:Rat)<((r.den:Int):Rat):=Rat.intCast_pos.2 (by have:=r.den_pos;omega);simp only [M7]at e1;refine Bg.lin ?_;rw [e1 a,e1 b]
 rcases h with h | h
 ·exact .inl ⟨Rat.mul_pos hd aT,Rat.mul_pos hd aT⟩
 ·right;have:=Rat.mul_pos hd (show 0<r-a by grind);have:=Rat.mul_pos hd (show 0<r-b by grind);exact⟨aT,aT⟩
structure Kz(T:List Rat)(p:ZX):Prop where
 FN:T.Pairwise (· < ·)
 ne:p≠0
 hN:ZX.N p=T.length+1
 hn:n1 p<=24^T.length
 rt:∀r∈T,e r p=0
 bg:∀a b,a<=b->(∀r∈T,r<a∨b<r)->Bg a b p
 rng:∀r∈T,r.num.natAbs<=20∧r.den<=3
 mu1:∀q,sF q->mu q p<=1
theorem Kz.nil:Kz [] (of [1]) where
 FN:=.nil
 ne:=ZX.aH.2 aF
 hN:=by decide
 hn:=by decide
 rt:=fun _ h=>by cases h
 bg:=fun _ _ _ _=>Bg.K (c:=1) aF
 rng:=fun _ h=>by cases h
 mu1:=fun q hq=>by show mu q (1:ZX)<=1;rw [P6 hq];decide
theorem ae3(h:r.num.natAbs<=20∧r.den<=3):n1 (eG r)<=24:=by unfold n1;rw [uH];simp only [l1,List.map_cons,List.map_nil,List.sum_cons,List.sum_nil];omega
theorem ane{q:ZX}(hq:sF q)(r:Rat):mu q (eG r)<=1 ∧ ∀p:ZX,p≠0->e r p≠0->1<=mu q (eG r)->mu q p=0:=by
 have l0:=GL r
 refine⟨Nat.not_lt.1 fun h=>?_,fun p hp he h1=>?_⟩
 ·have h1:=(lP hq l0).1 (show 2<=mu q (eG r)by omega);have h2:=h1.nP l0;have h3:=aia hq 2;rw [lA]at h2;omega
 ·refine Nat.eq_zero_of_not_pos fun h2=>he ?_;have e1:q^1=q:=by rw [pow_succ',fH];grind
  have d1:=(lP hq l0).1 h1;have d2:=(lP hq hp).1 h2;rw [e1]at d1 d2;have hN:ZX.N q=2:=by have:=d1.nP l0;rw [lA]at this;have:=hq.deg;omega
  obtain⟨c,hc,s,hs⟩:=d1;have s0:s≠0:=fun h=>by rw [h]at hs;exact ZX.oF (ZX.sE hc) l0 (by rw [hs];grind)
  have hNs:ZX.N s=1:=by have:=congrArg ZX.N hs;rw [ZX.lN (ZX.sE hc) l0,ZX.lN s0 hq.ne,hN,lA,ZX.N_K hc]at this;omega
  have h3:e r s≠0:=fun h=>by have:=(QO.1 h).nP s0;rw [lA]at this;omega
  have h4:e r q=0:=by
   have:=congrArg (e r) hs;rw [kH,kH,wZ,Rat.mul_zero]at this
   rcases Rat.mul_eq_zero.1 this.symm with h | h
   ·exact absurd h h3
   ·exact h
  obtain⟨c',CX,u,hu⟩:=d2;have:=congrArg (e r) hu;rw [kH,kH,h4,Rat.mul_zero,CV]at this
  rcases Rat.mul_eq_zero.1 this with h | h
  ·exact absurd (by exact_mod_cast h) CX
  ·exact h
theorem Kz.ins(K:Kz T p)(hr:r.num.natAbs<=20∧r.den<=3)(h1:∀x∈T.take k,x<r)(h2:∀x∈T.drop k,r<x):Kz (T.take k++r::T.drop k) (p*eG r):=by
 have qB:∀x,x∈T.take k++r::T.drop k↔x=r∨x∈T:=fun x=>by
  simp only [List.mem_append,List.mem_cons]
  constructor
  ·rintro(h | h | h)
   ·exact .inr (List.mem_of_mem_take h)
   ·exact .inl h
   ·exact .inr (List.mem_of_mem_drop h)
  ·rintro(h | h)
   ·exact .inr (.inl h)
   ·rw [<-List.take_append_drop k T]at h
    rcases List.mem_append.1 h with h | h
    ·exact .inl h
    ·exact .inr (.inr h)
 have hlen:(T.take k++r::T.drop k).length=T.length+1:=by have:=congrArg List.length (List.take_append_drop k T);simp only [List.length_append,List.length_cons]at this |-;omega
 refine⟨?_,ZX.oF K.ne (GL r),?_,?_,fun x hx=>?_,fun a b gU h=>?_,fun x hx=>?_,fun q hq=>?_⟩
 ·have hs:=K.FN;rw [<-List.take_append_drop k T,List.pairwise_append]at hs;obtain⟨s1,s2,s3⟩:=hs;rw [List.pairwise_append];refine⟨s1,List.pairwise_cons.2 ⟨h2,s2⟩,fun a ha b hb=>?_⟩
  rcases List.mem_cons.1 hb with rfl | hb
  ·exact h1 a ha
  ·exact s3 a ha b hb
 ·rw [ZX.lN K.ne (GL r),K.hN,lA,hlen];omega
 ·rw [hlen,Nat.pow_succ];exact Nat.le_trans (Q0 _ _) (Nat.mul_le_mul K.hn (ae3 hr))
 ·rw [kH]
  rcases(qB x).1 hx with rfl | hx
  ·rw [QN];grind
  ·rw [K.rt x hx,Rat.zero_mul]
 ·exact(K.bg a b gU fun x hx=>h x ((qB x).2 (.inr hx))).mul (Bg.eG gU (h r ((qB r).2 (.inl rfl))))
 ·rcases(qB x).1 hx with rfl | hx
  ·exact hr
  ·exact K.rng x hx
 ·obtain⟨m1,m2⟩:=ane hq r;rw [wI hq K.ne (GL r)];have h3:=K.mu1 q hq
  have he:e r p≠0:=fun h0=>by
   obtain⟨η,h4,h5⟩:=K.bg r r Rat.le_refl fun x hx=>by
    rw [<-List.take_append_drop k T]at hx
    rcases List.mem_append.1 hx with hx | hx
    ·exact .inl (h1 x hx)
    ·exact .inr (h2 x hx)
   have:=h5 r Rat.le_refl Rat.le_refl;rw [h0]at this;unfold mU at this;rcases this with h | h<;>grind
  rcases Nat.eq_zero_or_pos (mu q (eG r))with h4 | h4
  ·omega
  ·have:=m2 p K.ne he h4;omega
theorem Kz.oz(K:Kz T p):Go.Proofs.YtiobceocpabjdaaGreat.oz (nf p)=Go.Proofs.YtiobceocpabjdaaGreat.sq p:=by refine ajl (ail (kG K.ne)) (nT K.ne).1 fun q hq=>?_;rw [api (kG K.ne) hq,abO hq K.ne,(nT K.ne).2 q hq];have:=K.mu1 q hq;omega
theorem p24(h:k<=4):24^k<=331776:=by have:=Nat.pow_le_pow_right (show 0<24 by decide) h;exact Nat.le_trans this aF
theorem Kz.lay(K:Kz T p)(h:T.length<=4):tY 19 5 p:=by have h1:=K.hn;have h2:=p24 h;have h3:=K.hN;have e19:(2:Nat)^19=524288:=aF;exact⟨BZ.apx aA aA,aF,aF,aF⟩
theorem Kz.iso(K:Kz T p)(h:T.length<=4):nX (qb 19 5) 5 (sq p):=ajj (K.lay h) K.ne aF aF aF
theorem Kz.count{T:List Rat}{p:ZX}(K:Kz T p)(h:T.length<=4){a b:Rat}(gU:a<b):vt (aO (sq p)) a=vt (aO (sq p)) b+(T.countP fun r=>decide (a<r∧r<=b)):=by
 have h0:=K.ne;have hG:=(K.lay h).QM h0 aF;refine hG.count (K.FN.imp fun h=>Rat.ne_of_lt h) (fun r hr=>(acf h0).2 (K.rt r hr)) (fun a b gU hr=>?_) gU;have key:∀a,a<b->(∀r∈T,r<a∨b<r)->vt (aO (sq p)) a=vt (aO (sq p)) b:=fun a gU h=>hG.bg ((K.bg a b (Rat.le_of_lt gU) h).dv (uE h0)) gU
 by_cases h1:e a (sq p)=0
 ·obtain⟨a',q1,q2,q3⟩:=hG.aem gU h1;rw [q3]
  rcases Rat.le_iff_lt_or_eq.1 q2 with h2 | rfl
  ·exact key a' h2 fun r vF=>by
    by_cases h3:a<r
    ·exact .inr (hr r vF h3)
    ·left;grind
  ·rfl
 ·refine key a gU fun r vF=>?_
  by_cases h3:a<r
  ·exact .inr (hr r vF h3)
  ·left;refine Rat.lt_of_le_of_ne (Rat.not_lt.1 h3) fun h4=>h1 ?_;rw [<-h4];exact(acf h0).2 (K.rt r vF)
theorem Kz.range(K:Kz T p):∀r∈T, -20<=r∧r<=20:=fun r hr=>ae2 (K.rng r hr).1
def RG(T:List Rat)(t:Rat):Nat:=T.countP fun r=>decide (r<=t)
theorem atD{t:Rat}:RG T t<=T.length:=List.countP_le_length
theorem Kz.level(K:Kz T p)(h:T.length<=4):(∀t,vt (aO (sq p)) t+RG T t=vt (aO (sq p)) (-jE (sq p).l))∧vt (aO (sq p)) (jE (sq p).l)+T.length=vt (aO (sq p)) (-jE (sq p).l):=by
 have I:=K.iso h;have hr:=K.range;have c1:∀t:Rat, -100<t->vt (aO (sq p)) (-100)=vt (aO (sq p)) t+RG T t:=fun t ht=>by rw [K.count h ht];congr 1;refine List.countP_congr fun r vF=>?_;have:=hr r vF;simp only [decide_eq_true_eq];exact⟨fun q=>q.2,fun q=>⟨aT,q⟩⟩
 have c2:=c1 100 aF;have e2:RG T 100=T.length:=by unfold RG;rw [List.countP_eq_length];intro r vF;have:=hr r vF;simp only [decide_eq_true_eq];grind
 have c3:=K.count h I.VQ;have c4:(T.countP fun r=>decide (-jE (sq p).l<r∧r<=jE (sq p).l))<=T.length:=List.countP_le_length;have t1:=I.apL (-100);have t2:=I.aAb 100;have e3:vt (aO (sq p)) (-100)=vt (aO (sq p)) (-jE (sq p).l):=aA;refine⟨fun t=>?_,aA⟩
 by_cases ht : -100<t
 ·rw [<-e3,c1 t ht]
 ·have a1:=I.S.bU (show t <= -100 by grind);have a2:=I.apL t;have a3:RG T t=0:=by unfold RG;rw [List.countP_eq_zero];intro r vF;have:=hr r vF;simp only [decide_eq_true_eq];grind
  omega
theorem GM{t:Rat}:∀ {T:List Rat} {i:Nat},T.Pairwise (· < ·)->i<T.length->(i+1<=RG T t↔nth T i<=t)
 | [],i,_,h=>by simp at h
 | r::T,i,hs,hi=>by
  obtain⟨s1,s2⟩:=List.pairwise_cons.1 hs;unfold RG;rw [List.countP_cons]
  by_cases hr:r<=t
  ·rw [if_pos (by simpa using hr)];cases i with
   | zero=>exact⟨fun _=>hr,fun _=>by omega⟩
   | succ i =>
    have:=GM (t:=t) s2 (show i<T.length by simpa using hi);unfold RG at this;rw [show nth (r::T) (i+1)=nth T i by simp [nth],<-this];omega
  ·rw [if_neg (by simpa using hr)];have h0:(T.countP fun r=>decide (r<=t))=0:=(by rw [List.countP_eq_zero];intro x hx;have:=s1 x hx;simp only [decide_eq_true_eq];grind);rw [h0];refine⟨fun h=>by omega,fun h=>absurd h ?_⟩;have hm:=bO hi
   rcases List.mem_cons.1 hm with hm | hm
   ·rw [hm];exact hr
   ·have:=s1 _ hm;grind
theorem Kz.len{T:List Rat}{p:ZX}(K:Kz T p)(h:T.length<=4):(GI (qb 19 5) 5 (sq p)).length=T.length:=by have h1:=(K.iso h).ivs.len;have h2:=(K.level h).2;omega
theorem Kz.ajQ(K:Kz T p)(h:T.length<=4){i:Nat}(hi:i<T.length)(t:Rat):bN (sq p) (nth ((GI (qb 19 5) 5 (sq p)).map (ex (sq p))) i) t↔nth T i<=t:=by have I:=K.iso h;rw [I.aat i (by rw [K.len h];exact hi),<-GM K.FN hi];have:=(K.level h).1 t;omega
end Go.Proofs.YtiobceocpabjdaaGreat
namespace Go.Proofs.YtiobceocpabjdaaGreat
open Go Pm
variable {c:A9->A9->Int}{x:A9}{l:List A9}
def LD(c:A9->A9->Int)(x:A9)(l:List A9):A9:=l.foldl (fun b y=>if c y b<0 then y else b) x
theorem GN{c:A9->A9->Int}:∀ {l:List A9} {x:A9},LD c x l∈x::l
 | [],x=>by simp [LD]
 | y::l,x=>by
  have h:=GN (c:=c) (l:=l) (x:=if c y x<0 then y else x);have e:LD c x (y::l)=LD c (if c y x<0 then y else x) l:=rfl;rw [e]
  rcases List.mem_cons.1 h with h | h
  ·rw [h];split<;>simp
  ·exact List.mem_cons_of_mem _ (List.mem_cons_of_mem _ h)
theorem ajR{i:Nat}(h:i<l.length):LD c x (l.take (i+1))=if c (nth l i) (LD c x (l.take i))<0 then nth l i else LD c x (l.take i):=by unfold LD;rw [bZ h,List.take_succ_eq_append_getElem h,List.foldl_append];rfl
theorem AA(hl:l.length<1000000)
  (hc:∀y∈l,∀b∈x::l,aC 110 [.ag (b9 y), .ag (b9 b)] (aB (c y b))) (hf:aC 198 [.ag (b9 (LD c x l))] (.ag (b9 (LD c x l)))) :
  aC 112 [aJ b9 (x::l)] (.dK [.ag (b9 (LD c x l)), .bool true]):=by
 simp only [gQ]at hc hf |-;apply cG [(0,aJ b9 (x::l))] Tryz.func112;apply aQ [0,2];apply cQ [0,2,9]
 refine W.cond ⟨_,rfl,fun h=>?_,fun h=>?_⟩
 ·simp at h;omega
 apply W.skip;apply W.sr;simp (disch:=omega) [gw,gQ];apply cO [0,2,4];apply eE [2,4,15,16,17]
 refine W.bB (fun k σ=>∃(i v2 v4:Nat),bF σ [(2, .ptr 2 v2 0 0),(4, .ptr 4 v4 0 0),(15,aJ b9 l),(16,aB l.length),(17,aB i)] fun rows clk=>rows 2=some ⟨v2,54,9,[[.nil, .bool false, .nil, .bool false, .nil, .bool false, .nil, .bool false, .nil]]⟩∧rows 4=some ⟨v4,54,9,[b9 (LD c x (l.take i))]⟩∧i+k=l.length) l.length ?_ ?_
 ·exact⟨_,aD _ [2,4,15,16,17],0,_,_,_,_,rfl,aG,by simp [LD,gQ,show nth (x::l) 0=x from rfl],aA⟩
 rintro k _ ⟨i,v2,v4,rows,clk,rfl,bS,dW,tM⟩;apply cN [2,4,15,16,17,18]
 refine W.cond ⟨_,rfl,fun h=>?_,fun h=>?_⟩
 ·have hi:i<l.length:=by simp at h;omega
  have hm:LD c x (l.take i)∈x::l:=by
   rcases List.mem_cons.1 (GN (c:=c) (x:=x) (l:=l.take i))with h | h
   ·rw [h];simp
   ·exact List.mem_cons_of_mem _ (List.mem_of_mem_take h)
  have hC:=hc _ (bO hi) _ hm;have fA:=ajR (c:=c) (x:=x) hi;generalize hw':LD c x (l.take (i+1))=w' at *;generalize LD c x (l.take i)=w at *;generalize hy:nth l i=y at *;generalize c y w=z at *;rw [gQ]at dW;apply W.skip
  refine W.dS (fun σ=>∃(v2 v4:Nat),bF σ [(2, .ptr 2 v2 0 0),(4, .ptr 4 v4 0 0),(15,aJ b9 l),(16,aB l.length),(17,aB i)] fun rows clk=>rows 2=some ⟨v2,54,9,[[.nil, .bool false, .nil, .bool false, .nil, .bool false, .nil, .bool false, .nil]]⟩∧rows 4=some ⟨v4,54,9,[b9 w']⟩) ?_ ?_
  ·apply W.sr;simp (disch:=omega) [gw,hi,hy,gQ];apply cO [2,4,6,15,16,17];apply oQ dW hC;apply bT [2,4,6,15,16,17,24]
   refine W.cond ⟨_,rfl,fun h=>?_,fun h=>?_⟩
   ·have hz:z<0:=(by simpa using h);rw [if_pos hz]at fA;subst fA;refine W.bY (fun K hK=>?_);simp (disch:=omega) [gw,dW];exact hK _ ⟨_,aD _ [2,4,15,16,17],_,_,_,_,rfl,by simp [bS],by simp [gQ]⟩
   ·have hz:¬z<0:=(by simpa using h);rw [if_neg hz]at fA;subst fA;apply W.skip;exact⟨_,aD _ [2,4,15,16,17],_,_,_,_,rfl,by simp [bS],by simp [dW,gQ]⟩
  rintro _ ⟨v2,v4,rows,clk,rfl,bS,dW⟩;refine W.bY (fun K hK=>?_);simp (disch:=omega) [gw];refine hK _ ⟨k-1,_,aD _ [2,4,15,16,17],aA,i+1,_,_,_,_,rfl,bS,by rw [hw'];exact dW,aA⟩
 ·have hi:i=l.length:=by simp at h;omega
  subst hi;rw [List.take_length,gQ]at dW;apply (jV);apply j0 dW hf;exact FM bS [2,3]
end Go.Proofs.YtiobceocpabjdaaGreat
namespace Go.Proofs.YtiobceocpabjdaaGreat
open Go Pm
open ZX hiding N W
variable {x t y:Rat}{U:Rat->Prop}
def gX(f:ZX)(p:Rat × Rat):A9:=⟨emap ie f.l,decide (p.1.num<0),emap u32 (aV LL p.1.num.natAbs),decide ((p.1.den:Int)<0),emap u32 (aV LL (p.1.den:Int).natAbs),decide (p.2.num<0),emap u32 (aV LL p.2.num.natAbs),decide ((p.2.den:Int)<0),emap u32 (aV LL (p.2.den:Int).natAbs)⟩
def crx(x t:Rat):Int:=if x<t then -1 else if t<x then 1 else 0
theorem acF:0<crx x t↔t<x:=by
 unfold crx
 split
 ·exact⟨fun h=>absurd h aF,fun h=>by grind⟩
 ·split
  ·rename_i h;exact⟨fun _=>h,fun _=>by decide⟩
  ·rename_i h;exact⟨fun h1=>absurd h1 aF,fun h1=>absurd h1 h⟩
theorem ajS:crx x t=0↔x=t:=by
 unfold crx
 split
 ·exact⟨fun h=>absurd h aF,fun h=>by grind⟩
 ·split
  ·exact⟨fun h=>absurd h aF,fun h=>by grind⟩
  ·exact⟨fun _=>by grind,fun _=>rfl⟩
theorem ajT(x:Rat):crx x x=0:=ajS.2 rfl
theorem atE(h:∀t,U t↔x<=t)(t:Rat):cr U t=crx x t:=by
 unfold crx
 split
 ·rename_i h1;exact(DT (fun s t hs j2=>(h t).2 (Rat.le_trans ((h s).1 hs) j2))).2 ⟨x,h1,(h x).2 Rat.le_refl⟩
 ·split
  ·rename_i h1;exact sI.2 fun h2=>by have:=(h t).1 h2;grind
  ·have:x=t:=(by grind);subst this;exact B9.2 ⟨(h x).2 Rat.le_refl,fun s hs hu=>by have:=(h s).1 hu;grind⟩
theorem atF{V:Rat->Prop}(h:∀t,U t↔x<=t)(h':∀t,V t↔y<=t):cu U V=crx x y:=by
 unfold cu crx;have e1:(∃t,U t∧¬V t)↔x<y:=⟨fun⟨t,h1,h2⟩=>by rw [h]at h1;rw [h']at h2;grind,fun w7=>⟨x,(h x).2 Rat.le_refl,fun h2=>by have:=(h' x).1 h2;grind⟩⟩
 have e2:(∃t,V t∧¬U t)↔y<x:=⟨fun⟨t,h1,h2⟩=>by rw [h']at h1;rw [h]at h2;grind,fun w7=>⟨y,(h' y).2 Rat.le_refl,fun h2=>by have:=(h y).1 h2;grind⟩⟩
 by_cases h1:x<y
 ·rw [if_pos h1,if_pos (e1.2 h1)]
 ·rw [if_neg h1,if_neg (fun hh=>h1 (e1.1 hh))]
  by_cases h2:y<x
  ·rw [if_pos h2,if_pos (e2.2 h2)]
  ·rw [if_neg h2,if_neg (fun hh=>h2 (e2.1 hh))]
structure CJ(s n u:Nat)(f:ZX)(p:Rat × Rat)(x:Rat):Prop where
 a:AN s n u f p
 v:∀t,bN f p t↔x<=t
namespace CJ
section
variable {s n u:Nat} {f:ZX} {p:Rat × Rat} {x:Rat} (A:CJ s n u f p x)
include A
theorem fr:aC 198 [.ag (b9 (gX f p))] (.ag (b9 (gX f p))):=NQ (wY A.a.I.ch.bz (by have:=A.a.hs;omega) (by have:=A.a.I.lay.hn;omega) A.a.q1 A.a.q2 (by have:=A.a.hu;omega))
theorem least:aC 112 [.sl [b9 (gX f p)]] (.dK [.ag (b9 (gX f p)), .bool true]):=AA (c:=fun _ _=>0) (l:=[]) aF (fun y h=>by cases h) A.fr
theorem fa:aC 20 [.ag (b9 (gX f p))] (QA f (aO f) (ex f p)):=A.a.I.ajd A.a.q1 A.a.q2 (by have:=A.a.hu;omega)
theorem tT:SQ u (ex f p).1∧SQ u (ex f p).2:=by
 unfold ex
 split
 ·exact⟨A.a.q2,A.a.q2⟩
 ·exact⟨A.a.q1,A.a.q2⟩
theorem qcr{v:Nat}(qt:SQ v t)(huv:u<=v)(hv:v<=1000000000):aC 19 [QA f (aO f) (ex f p),RR t] (aB (crx x t)):=by have h:=xU A.a.A;have:=A.a.I.wR h.1 (A.tT.1.mono huv) (A.tT.2.mono huv) qt hv;rwa [atE (fun t=>(h.2 t).trans (A.v t))]at this
theorem cmp{s' n' u':Nat}{g:ZX}{q:Rat × Rat}(B:CJ s' n' u' g q y)(c:CpC s n s' n'):aC 110 [.ag (b9 (gX f p)), .ag (b9 (gX g q))] (aB (crx x y)):=by have:=A.a.aty B.a c;rwa [atF A.v B.v]at this
end
theorem pt{s n:Nat}(q:SQ 5 t)(sb:t.num.natAbs<=30∧((t.den:Int)).natAbs<=6)(hs:5<=s)(hn:2<=n)(h1:n<=20)(h2:n+1<=2^s)(h3:(qb s n+n+6)*4^n<=4500000000)(h4:s<=100000):CJ s n 7000 (eG t) (t,t) t:=
 ⟨(apP (JS sb hs hn h1 h2 h3 aA) h4 (by rw [lA];decide) (wZ t) (q.mono aF) aF).1,fun _=>lZ rfl _⟩
end CJ
def nA(f:ZX)(L:List (Rat × Rat))(k:Nat):A9:=if k<L.length then gX f (nth L k)else A9.no
theorem atG(f:ZX)(L:List (Rat × Rat))(k:Nat):nxo (nxt f L k) = .dK [.ag (b9 (nA f L k)), .bool (decide (k<L.length))]:=by
 unfold nxt nA
 by_cases h:k<L.length
 ·rw [if_pos h,if_pos h,decide_eq_true h];rfl
 ·rw [if_neg h,if_neg h,decide_eq_false h];rfl
end Go.Proofs.YtiobceocpabjdaaGreat
namespace Go.Proofs.YtiobceocpabjdaaGreat
open Go Pm
open ZX hiding N W
variable {T:List Rat}{p:ZX}{t:Rat}
def S19:Nat:=qb 19 5
theorem atH:S19=235:=by decide
noncomputable abbrev CK(p:ZX):List (Rat × Rat):=GI S19 5 (sq p)
theorem Kz.root(K:Kz T p)(h:T.length<=4){i:Nat}(hi:i<T.length):CJ S19 5 (uu S19) (sq p) (nth (CK p) i) (nth T i):=by have I:=K.iso h;have hl:=K.len h;have hc:=fun t=>K.ajQ h hi t;change nX S19 5 (sq p)at I;change (CK p).length=_ at hl;change ∀t,bN (sq p) (nth ((CK p).map (ex (sq p))) i) t↔_ at hc;have hm:nth (CK p) i∈CK p:=bO aA;have e:=atH;have N5:=I.ch.bz.N;refine⟨(CG I aA (by have:ZX.N (sq p)<=5:=N5;omega) hm).1,fun t=>?_⟩;have hx:=(xU (CG I aA (by have:ZX.N (sq p)<=5:=N5;omega) hm).1.A).2 t;rw [<-hc t,qU aA];exact hx.symm
theorem Kz.turns(K:Kz T p)(h:T.length<=4):aC 255 [Po p.l] (aJ (ga (sq p)) (CK p)):=by have:=VV (K.lay h) K.ne aF aF aF;rw [K.oz]at this;exact this
theorem Kz.next(K:Kz T p)(h:T.length<=4){s' n' u':Nat}{g:ZX}{q:Rat × Rat}{x:Rat}(B:CJ s' n' u' g q x)(c:CpC S19 5 s' n') :
  aC 206 [Po p.l, .ag (b9 (gX g q))] (.dK [.ag (b9 (nA (sq p) (CK p) (RG T x))), .bool (decide (RG T x<T.length))]):=by
 have hl:(CK p).length=T.length:=K.len h;have hle:=atD (T:=T) (t:=x);have hT:=K.turns h
 have:=JT (y:=g.l) (an:=q.1.num) (ad:=q.1.den) (bn:=q.2.num) (bd:=q.2.den) (k:=RG T x) hT aA aA (fun i hi=>⟨crx (nth T i) x,(K.root h (i:=i) aA).cmp B c,fun hh=>by
  have h2:=(GM K.FN (show i<T.length by omega)).1 (show i+1<=RG T x by omega);have:=acF.1 hh;grind⟩) (fun hk=>⟨crx (nth T (RG T x)) x,(K.root h (i:=RG T x) aA).cmp B c,acF.2 (by
  refine Rat.not_le.1 fun h2=>?_;have:=(GM K.FN (show RG T x<T.length by omega)).2 h2;omega)⟩)
 rw [<-hl,<-atG];unfold nxt
 by_cases hk:RG T x<(CK p).length
 ·rw [if_pos hk,decide_eq_true hk]at this;rw [if_pos hk];exact this
 ·rw [if_neg hk,decide_eq_false hk]at this;rw [if_neg hk];exact this
theorem anf(sb:t.num.natAbs<=30∧((t.den:Int)).natAbs<=6):aC 41 [R2 t.num t.den] (AP (eG t).l (aO (eG t)) t.num t.den):=by have It:=JS (s:=59) (n:=5) sb aF aF aF aF aF aF;have hR:=yS (n:=t.num) (d:=t.den) aA aA (by have:=t.den_pos;omega) (uH t);rw [It.sq]at hR;rw [uH];exact hR
theorem ptA(q:SQ 5 t)(sb:t.num.natAbs<=30∧((t.den:Int)).natAbs<=6):CJ 59 5 7000 (eG t) (t,t) t:=CJ.pt q sb aF aF aF aF aF aF
theorem aAf(q:SQ 5 t)(sb:t.num.natAbs<=30∧((t.den:Int)).natAbs<=6):aC 29 [AP (eG t).l (aO (eG t)) t.num t.den] (.ag (b9 (gX (eG t) (t,t)))):=(ptA q sb).a.toA
theorem aFI:CpC S19 5 59 5:=⟨aF,aF,aF,aF,aF,aF,aF⟩
theorem k1:Kz [1] (eG 1):=by
 have h:=Kz.nil.ins (r:=1) aF (k:=0) (fun _ h=>by cases h) (fun _ h=>by cases h);have e1:of [1]*eG 1=eG 1:=by show(1:ZX)*eG 1=eG 1;grind
 rw [e1]at h;exact h
theorem aAg:SQ 5 (0:Rat):=⟨aF,aF,aF⟩
theorem aFJ:SQ 5 (1:Rat):=⟨aF,aF,aF⟩
def cw:CE:=⟨⟨0,0,0,0,0⟩,false,[-1,1], -1⟩
theorem V3:aC 45 [] (.bool true):=by have o0:=pN 0 1 aF aF;have o1:=pN 1 1 aF aF;rw [show eH 0 1=0 by decide,cU]at o0;rw [show eH 1 1=1 by decide,cU]at o1;have r0:=anf (t:=0) aF;have B:=ptA aAg aF;have ta:=aAf aAg aF;have q4:aC 97 [.sl [[aB (-1)],[aB 1]]] (PI [-1,1]):=xH [-1,1] aF aF;have q5:aC 100 [PI [-1,1]] (Po [-1,1]):=abC [-1,1] (fun c hc=>by simp only [List.mem_cons,List.not_mem_nil,or_false]at hc;exact Nat.lt_of_le_of_lt (oX (k:=1) (by rcases hc with rfl | rfl<;>decide)) aF) aF;have K:=k1;have bz:=(K.lay aF).bz;have nN:=fG (x:=(eG 1).l) (bz.pb aF aF);rw [(eG 1).c]at nN;have hS:aC 35 [aJ i9 [cw]] (aJ i9 [cw]):=DG (l:=[cw]) aF (fun x hx=>by simp only [List.mem_cons,List.not_mem_nil,or_false]at hx;subst hx;exact nN);have hY:=acE (b:=false) (n:=A9.no) (z:=true) (L:=[]) (e:=0) (later:=false) (C:=[cw]) (S:=[cw]) (G:=WE.new) aF (fun s hs=>by simp only [List.mem_cons,List.not_mem_nil,or_false]at hs;subst hs;rfl) hS B.least (fun _ _ _=>rfl) (fun h=>by cases h);have hBe:=NS hY;have hN:=w5 (z:=false) (L:=[WE.new cw]) (e:=0) B.least;have hG:=K.next aF B aFI;have e0:RG [1] 0=0:=aF;rw [e0]at hG;have hr:=K.root aF (i:=0) aF;have hl:(CK (eG 1)).length=1:=K.len aF;have en:nA (sq (eG 1)) (CK (eG 1)) 0=gX (sq (eG 1)) (nth (CK (eG 1)) 0):=if_pos aA;rw [en]at hG;have hK:=JW (R:=fun _=>(true,gX (sq (eG 1)) (nth (CK (eG 1)) 0))) aF (fun h=>by cases h) hN (fun w hw _=>by simp only [List.mem_cons,List.not_mem_nil,or_false]at hw;subst hw;exact hG);have hX:=JX (r:=gX (sq (eG 1)) (nth (CK (eG 1)) 0)) (ok:=true) aF hK hr.least;have hc:=hr.qcr (aFJ.mono (show 5<=uu S19 by decide)) (Nat.le_refl _) aF;rw [show nth [(1:Rat)] 0=1 from rfl,ajT,cU]at hc;exact RF o0 r0 ta q4 q5 hBe hX hr.fa o1 hc
end Go.Proofs.YtiobceocpabjdaaGreat
namespace Go.Proofs.YtiobceocpabjdaaGreat
open Go Pm
variable {P:Program}{t:TypeId}{xs:Array Value}{i d:Nat}{v:Value}{w:World}
theorem V4{a:List Int}(ha:a.length<1099511627776):aC 250 [us a,us a] (.bool true):=by
 apply cG [(0,us a),(1,us a)] Tryz.func250;apply aQ [0,1];apply cQ [0,1,10]
 refine W.cond ⟨_,rfl,fun h=>?_,fun h=>?_⟩
 ·simp at h
 ·apply W.skip;apply eE [0,1,5]
  refine W.bB (fun k σ=>∃(i:Nat),bF σ [(0,us a),(1,us a),(5,aB i)] fun rows clk=>i+k=a.length) a.length ?_ ?_
  ·exact⟨_, .refl,0,_,_,rfl,aA⟩
  rintro k _ ⟨i,rows,clk,rfl,tM⟩;apply cQ [0,1,5,14]
  refine W.cond ⟨_,rfl,fun h=>?_,fun h=>?_⟩
  ·have hi:i<a.length:=(by simp at h;omega);apply (iE);apply W.sd;simp (disch:=omega) [gw,hi,u32];apply cO [0,1,5,25]
   refine W.cond ⟨_,rfl,fun h=>?_,fun h=>?_⟩
   ·simp at h
   ·apply W.skip;refine W.bY (fun K hK=>?_);simp (disch:=omega) [gw];exact hK _ ⟨k-1,_,aD _ [0,1,5],aA,i+1,_,_,rfl,aA⟩
  ·exact uW [4]
theorem RH{x:Int}(hx:(aV LL x.natAbs).length<1099511627776):aC 190 [.ag (ie x), .ag (ie x)] (.bool true):=by have k1:=V4 hx;unfold ie;generalize decide (x<0)=b;generalize aV LL x.natAbs=d at *;apply cG [(0, .ag [.bool b,us d]),(1, .ag [.bool b,us d])] Tryz.func190;apply gJ [2,3] k1 [4];exact j8
theorem LF{p:List Int}(hp:p.length<1099511627776)(hz:∀c∈p,(aV LL c.natAbs).length<1099511627776):aC 107 [Po p,Po p] (.bool true):=by
 apply cG [(0,Po p),(1,Po p)] Tryz.func107;apply aQ [0,1];apply cQ [0,1,10]
 refine W.cond ⟨_,rfl,fun h=>?_,fun h=>?_⟩
 ·simp at h
 ·apply W.skip;apply eE [0,1,12,13]
  refine W.bB (fun k σ=>∃(i:Nat),bF σ [(0,Po p),(1,Po p),(12,aB p.length),(13,aB i)] fun rows clk=>i+k=p.length) p.length ?_ ?_
  ·exact⟨_, .refl,0,_,_,rfl,aA⟩
  rintro k _ ⟨i,rows,clk,rfl,tM⟩;apply cN [0,1,12,13,14]
  refine W.cond ⟨_,rfl,fun h=>?_,fun h=>?_⟩
  ·have hi:i<p.length:=(by simp at h;omega);have k1:=RH (hz _ (bO hi));unfold ie at k1;apply (iE);apply kR [0,1,5,12,13];simp (disch:=omega) [gw,hi,ie];apply jW k1;apply cO [0,1,12,13,25]
   refine W.cond ⟨_,rfl,fun h=>?_,fun h=>?_⟩
   ·simp at h
   ·apply W.skip;refine W.bY (fun K hK=>?_);simp (disch:=omega) [gw];exact hK _ ⟨k-1,_,aD _ [0,1,12,13],aA,i+1,_,_,rfl,aA⟩
  ·exact uW [4]
theorem aaB:env.P.underlying 3=some (.int .i64):=by kernel_rfl
theorem eqI(hu:P.underlying t=some (.int .i64))(d:Nat)(w:World)(a b:Int):(Op.equalIn (d+1) t (iV a) (iV b)).run P w = .ok (a==b) w:=by simp [Op.equalIn,run_underlying hu,iV]
theorem acG(hu:P.underlying t=some (.int .i64))(w:World)(h:xs[i]? = some v):(part t xs i).run P w = .ok v w:=by simp [part,p7 hu,u4,hu,aaF,h]
theorem uI(hu:P.underlying t=some (.int .i64)){ys:Array Value}{is:List Nat}{a b:Int}(hx:xs[i]? = some (iV a))(hy:ys[i]? = some (iV b)) :
  (Op.eqItems (d+1) t 1 xs ys (i::is)).run P w=if a=b then(Op.eqItems (d+1) t 1 xs ys is).run P w else .ok false w:=by
 simp only [Op.eqItems,Sem.run_bind,Nat.mul_one,acG hu w hx,acG hu w hy,Result.andThen_ok,eqI hu];by_cases h:a=b<;>simp [h]
theorem FA{ys:Array Value}{f:Field}{fs:List Field}{u:Value}{b:Bool} (hn:f.name ≠ "_") (hx:(part f.type xs f.offset).run P w = .ok u w) (hy:(part f.type ys f.offset).run P w = .ok v w) (he:(Op.equalIn d f.type u v).run P w = .ok b w) :
  (Op.eqFields d xs ys (f::fs)).run P w=if b=true then(Op.eqFields d xs ys fs).run P w else .ok false w:=by
 simp only [Op.eqFields,if_pos hn,Sem.run_bind,hx,hy,Result.andThen_ok,he];cases b<;>simp
theorem atI(d:Nat)(w:World)(a b c e a' b' c' e':Int):(Op.equalIn (d+2) 76 (.agg #[iV a,iV b,iV c,iV e]) (.agg #[iV a',iV b',iV c',iV e'])).run env.P w = .ok (decide ([a,b,c,e] = [a',b',c',e'])) w:=by
 have hu:env.P.underlying 76=some (.array 4 3):=cT;obtain⟨i,hi⟩:∃i,env.P.info? 3=some i:=Option.isSome_iff_exists.1 cT
 rw [show d+2=(d+1)+1 from rfl,run_equalIn_array w (d+1) _ _ hu hi,show env.P.cellsOf 3=1 by kernel_rfl,show List.range 4 = [0,1,2,3]from rfl,
  uI aaB (a:=a) (b:=a') rfl rfl,uI aaB (a:=b) (b:=b') rfl rfl,uI aaB (a:=c) (b:=c') rfl rfl,uI aaB (a:=e) (b:=e') rfl rfl]
 by_cases h1:a=a'<;>by_cases h2:b=b'<;>by_cases h3:c=c'<;>by_cases h4:e=e'<;>simp [h1,h2,h3,h4,Op.eqItems]
theorem apT:akw env.P 78 5:=by
 refine⟨fun w xs ys hx hy=>?_,cT⟩
 match xs,hx with
 | [k,a,b,c,d],_ =>
  match ys,hy with
  | [k',a',b',c',d'],_ =>
   obtain⟨f1,f2,hS,n1,t1,o1,n2,t2,o2⟩:∃f1 f2:Field,env.P.fieldsOf 78 = [f1,f2].toArray∧f1.name ≠ "_" ∧ f1.type=3∧f1.offset=0∧f2.name ≠ "_" ∧ f2.type=76∧f2.offset=1:=(by have h:env.P.fieldsOf 78=([⟨ "Kind",3,0,false, "", "",0⟩,⟨ "Ids",76,1,false, "", "",8⟩]:List Field).toArray:=cT;exact⟨_,_,h,aF,rfl,rfl,aF,rfl,rfl⟩);have hu:env.P.underlying 78=some (.struct (env.P.fieldsOf 78)):=cT;have hui:env.P.underlying 76=some (.array 4 3):=cT;obtain⟨i,hi⟩:∃i,env.P.info? 76=some i:=Option.isSome_iff_exists.1 cT;have rE:i.size=4:=(by have h:(env.P.info? 76).map (fun i=>i.size)=some 4:=cT;rw [hi]at h;simpa using h);have pA:∀x0 x1 x2 x3 x4:Int,(part 76 #[iV x0,iV x1,iV x2,iV x3,iV x4] 1).run env.P w = .ok (.agg #[iV x1,iV x2,iV x3,iV x4]) w:=(by intro x0 x1 x2 x3 x4;simp only [part,Sem.run_bind,p7 hui,Result.andThen_ok,show u4 env.P 76=true by kernel_rfl,if_true,dP hi,rE,Sem.run_pure];rfl);show(Op.equalIn 10000 78 (.agg #[iV k,iV a,iV b,iV c,iV d]) (.agg #[iV k',iV a',iV b',iV c',iV d'])).run env.P w=_;rw [show(10000:Nat)=9999+1 from rfl,run_equalIn_struct w 9999 78 _ _ hu cT,hS];show(Op.eqFields 9999 _ _ [f1,f2]).run env.P w=_
   rw [FA (u:=iV k) (v:=iV k') (b:=k==k') n1 (by rw [t1,o1];exact acG aaB w rfl) (by rw [t1,o1];exact acG aaB w rfl) (by rw [t1];exact eqI aaB 9998 w k k'),
    FA n2 (by rw [t2,o2];exact pA k a b c d) (by rw [t2,o2];exact pA k' a' b' c' d') (by rw [t2];exact atI 9997 w a b c d a' b' c' d')]
   by_cases h1:k=k'<;>by_cases h2:[a,b,c,d] = [a',b',c',d']<;>simp [h1,h2,Op.eqFields]
end Go.Proofs.YtiobceocpabjdaaGreat
namespace Go.Proofs.YtiobceocpabjdaaGreat
open Go Pm
open ZX hiding N W
variable {a:ZX}{x y:Int}{B:A9}
theorem V5{α:Type}{g:α->List PV}(hg:∀x y,g x=g y->x=y){a b:List α}(h:emap g a=emap g b):a=b:=(List.map_inj_right hg).1 h
theorem ang{a b:List Int}(h:emap u32 a=emap u32 b):a=b:=V5 (fun x y h=>by simpa [u32]using h) h
theorem V6(h:emap u32 (aV LL x.natAbs)=emap u32 (aV LL y.natAbs)):x.natAbs=y.natAbs:=by have h3:=ang h;have a:=YX x;have b:=YX y;rw [h3]at a;omega
theorem acH(h1:decide (x<0)=decide (y<0))(h2:emap u32 (aV LL x.natAbs)=emap u32 (aV LL y.natAbs)):x=y:=by have h4:=V6 h2;have h5:x<0↔y<0:=decide_eq_decide.1 h1;omega
theorem atJ(x y:Int)(h:ie x=ie y):x=y:=by unfold ie at h;simp only [List.cons.injEq,PV.bool.injEq,and_true,aJ,PV.sl.injEq]at h;exact acH h.1 h.2
theorem acI{p q:Rat}(h1:decide (p.num<0)=decide (q.num<0))(h2:emap u32 (aV LL p.num.natAbs)=emap u32 (aV LL q.num.natAbs))(h3:emap u32 (aV LL (p.den:Int).natAbs)=emap u32 (aV LL (q.den:Int).natAbs)):p=q:=by have a:=acH h1 h2;have b:=V6 h3;exact Rat.ext a aA
abbrev Nm:Type:=ZX × Rat × Rat
variable {e:Nm}
def gN(e:Nm):A9:=gX e.1 e.2
theorem atK{d:Nm}(h:gN e=gN d):e=d:=by obtain⟨f,p,q⟩:=e;obtain⟨g,r,s⟩:=d;simp only [gN,gX,A9.mk.injEq]at h;obtain⟨h1,h2,h3,h4,h5,h6,h7,h8,h9⟩:=h;have a:=V5 atJ h1;have b:=acI h2 h3 h5;have c:=acI h6 h7 h9;subst b c;rw [show f=g from ZX.ext fun t=>by rw [a]]
abbrev S18:Nat:=qb 18 6
abbrev U18:Nat:=uu S18
structure NN(e:Nm):Prop where
 a:AN S18 6 U18 e.1 e.2
 b:AN S18 6 U18 e.1 (ex e.1 e.2)
def NA(A:A9):Prop:=∃e,NN e∧gN e=A
noncomputable def jY(A:A9):Nm:=open Classical in if h:NA A then Classical.choose h else(0,0,0)
theorem jD{A:A9}(h:NA A):NN (jY A)∧gN (jY A)=A:=by unfold jY;rw [dif_pos h];exact Classical.choose_spec h
theorem aaC(h:NN e):jY (gN e)=e:=atK (jD ⟨e,h,rfl⟩).2
theorem NA.of(h:NN e):NA (gN e):=⟨e,h,rfl⟩
noncomputable def cA(A:A9):Rat->Prop:=bN (jY A).1 (jY A).2
theorem V7(h:NN e):cA (gN e)=bN e.1 e.2:=by unfold cA;rw [aaC h]
noncomputable def mW(A B:A9):Int:=cu (cA A) (cA B)
section
variable {A B:A9} (hA:NA A)
include hA
theorem NA.up:∀s t,cA A s->s<=t->cA A t:=(dE (jD hA).1.a.A).up
theorem NA.fr:aC 198 [.ag (b9 A)] (.ag (b9 A)):=by obtain⟨⟨a,_⟩,h⟩:=jD hA;have:=NQ (wY a.I.ch.bz aF (by have:=a.I.lay.hn;omega) a.q1 a.q2 (by have:=a.hu;omega));rw [<-h];exact this
theorem NA.least:aC 112 [.sl [b9 A]] (.dK [.ag (b9 A), .bool true]):=AA (c:=fun _ _=>0) (l:=[]) aF (fun y h=>by cases h) hA.fr
theorem NA.cmp(hB:NA B):aC 110 [.ag (b9 A), .ag (b9 B)] (aB (mW A B)):=by obtain⟨⟨a,_⟩,h⟩:=jD hA;obtain⟨⟨b,_⟩,h'⟩:=jD hB;have:=a.aty b cp2;rw [<-h,<-h',mW,V7 (jD hA).1,V7 (jD hB).1];exact this
end
theorem atL(a:ZX):of a.l=a:=ZX.ext fun t=>by rw [ZX.ZB]
structure FT(a:ZX):Prop where
 ne:a≠0
 lay:tY 18 6 a
noncomputable def fO(a:ZX):ZX:=oz (nf a)
noncomputable def lO(a:ZX):List (Rat × Rat):=GI S18 6 (fO a)
namespace FT
variable {a:ZX} (h:FT a)
include h
theorem iso:nX S18 6 (fO a):=ajk h.lay h.ne aF aF aF
theorem turns:aC 255 [Po a.l] (aJ (ga (fO a)) (lO a)):=VV h.lay h.ne aF aF aF
theorem nn{q:Rat × Rat}(hq:q∈lO a):NN (fO a,q):=by have N6:ZX.N (fO a)<=6:=h.iso.ch.bz.N;exact⟨(CG h.iso aF aA hq).1,(CG h.iso aF aA hq).2⟩
end FT
noncomputable def kx(a:ZX)(B:A9):Nat:=Classical.choose (oJ (fun i=>0<cu (bN (fO a) (nth (lO a) i)) (cA B)) (lO a).length)
theorem CL(a:ZX)(B:A9):kx a B<=(lO a).length∧(∀i,i<kx a B->¬0<cu (bN (fO a) (nth (lO a) i)) (cA B))∧(kx a B<(lO a).length->0<cu (bN (fO a) (nth (lO a) (kx a B))) (cA B)):=Classical.choose_spec (oJ (fun i=>0<cu (bN (fO a) (nth (lO a) i)) (cA B)) (lO a).length)
noncomputable def KG(x:List Int)(B:A9):Bool × A9:=if kx (of x) B<(lO (of x)).length then(true,gN (fO (of x),nth (lO (of x)) (kx (of x) B)))else(false,A9.no)
theorem FT.next(h:FT a)(hB:NA B):aC 206 [Po a.l, .ag (b9 B)] (.dK [.ag (b9 (KG a.l B).2), .bool (KG a.l B).1]):=by
 obtain⟨⟨b,_⟩,e⟩:=jD hB;obtain⟨k1,k2,k3⟩:=CL a B;have hl:=xT h.iso;change (lO a).length<=21 at hl;have hc:=fun i (hi:i<(lO a).length)=>(h.nn (bO hi)).a.aty b cp2;have:=JT (y:=(jY B).1.l) (an:=(jY B).2.1.num) (ad:=(jY B).2.1.den) (bn:=(jY B).2.2.num) (bd:=(jY B).2.2.den) (k:=kx a B) h.turns aA k1 (fun i hi=>⟨_,hc i aA,k2 i hi⟩) (fun hk=>⟨_,hc _ hk,k3 hk⟩);unfold KG;rw [atL];have e2:(.ag (b9 B):PV)=GA (jY B).1 (jY B).2:=by have e3:(.ag (b9 (gN (jY B))):PV)=GA (jY B).1 (jY B).2:=rfl;rwa [e]at e3
 rw [e2]
 by_cases hk:kx a B<(lO a).length
 ·rw [if_pos hk,decide_eq_true hk]at this;rw [if_pos hk];exact this
 ·rw [if_neg hk,decide_eq_false hk]at this;rw [if_neg hk];exact this
noncomputable def tO(a:ZX):List A9:=(lO a).map fun q=>gN (fO a,q)
theorem FT.nx(h:FT a)(ht:(KG a.l B).1=true):NA (KG a.l B).2∧0<mW (KG a.l B).2 B∧(KG a.l B).2∈tO a:=by
 obtain⟨k1,k2,k3⟩:=CL a B;unfold KG at ht |-;rw [atL]at ht |-
 by_cases hk:kx a B<(lO a).length
 ·rw [if_pos hk];have hn:=h.nn (bO hk);refine⟨⟨_,hn,rfl⟩,?_,List.mem_map.2 ⟨_,bO hk,rfl⟩⟩;rw [mW,V7 hn];exact k3 hk
 ·rw [if_neg hk]at ht;cases ht
end Go.Proofs.YtiobceocpabjdaaGreat
namespace Go.Proofs.YtiobceocpabjdaaGreat
open Go Pm
open ZX hiding N W
variable {n:A9}{L:List WE}
structure Bld(PL:List ZX)(lo:A9)(g:FuncId)(bR:List PV)(C B:A9->List CE):Prop where
 okp:∀a∈PL,FT a
 cer:∀A,NA A -> ∀c∈B A,c.z=false ∧ ∃a∈PL,c.p=a.l
 len:∀A,NA A->(B A).length<1000
 bld:∀A,NA A->aC g (.ag (b9 A)::bR) (aJ i9 (C A))
 FN:∀A,NA A->aC 35 [aJ i9 (C A)] (aJ i9 (B A))
 lo:NA lo
 hw:env.writes g=false
 hm:env.uT g=false
 GY:bR.all cY=true
noncomputable def lkL(n:A9)(L:List WE):List WE:=L.map (JV fun w=>KG w.p n)
noncomputable def V8(L:List WE):A9:=match CI L with
 | []=>A9.no
 | x::l=>LD mW x l
def okL(L:List WE):Bool := !(CI L).isEmpty
structure Wat(PL:List ZX)(n:A9)(L:List WE):Prop where
 len:L.length<1000
 pol:∀w∈L,∃a∈PL,w.p=a.l
 unk:∀w∈L,w.k=false->w.o=false
 kno:∀w∈L,w.o=true->NA w.f∧0<mW w.f n∧w.f∈PL.flatMap tO
theorem ani{PL:List ZX}{S:List CE}(hl:S.length<1000)(h:∀c∈S,∃a∈PL,c.p=a.l):Wat PL n (S.map WE.new) where
 len:=by simpa using hl
 pol:=fun w hw=>by obtain⟨c,hc,rfl⟩:=List.mem_map.1 hw;exact h c hc
 unk:=fun w hw _=>by obtain⟨c,hc,rfl⟩:=List.mem_map.1 hw;rfl
 kno:=fun w hw ho=>by obtain⟨c,hc,rfl⟩:=List.mem_map.1 hw;cases ho
section
variable {PL:List ZX} (hP:∀a∈PL,FT a) {n:A9} (hn:NA n)
include hP
theorem Wat.look(h:Wat PL n L):Wat PL n (lkL n L) ∧ ∀w∈lkL n L,w.k=true:=by
 refine⟨⟨by unfold lkL;simpa using h.len,fun w hw=>?_,fun w hw hk=>?_,fun w hw ho=>?_⟩,fun w hw=>?_⟩
 all_goals
  obtain⟨v,hv,rfl⟩:=List.mem_map.1 hw;by_cases hk:v.k=true
 ·rw [JV,if_pos hk];exact h.pol v hv
 ·rw [JV,if_neg hk];exact h.pol v hv
 ·rw [JV,if_pos hk]at *;exact h.unk v hv (by assumption)
 ·rename_i h2;rw [JV,if_neg hk]at h2;cases h2
 ·rw [JV,if_pos hk]at *;exact h.kno v hv ho
 ·rw [JV,if_neg hk]at *;obtain⟨a,ha,e⟩:=h.pol v hv;obtain⟨q1,q2,q3⟩:=(hP a ha).nx (B:=n) (by rw [<-e];exact ho);rw [<-e]at q1 q2 q3;exact⟨q1,q2,List.mem_flatMap.2 ⟨a,ha,q3⟩⟩
 ·rw [JV,if_pos hk];exact hk
 ·rw [JV,if_neg hk]
end
theorem rX{A:A9}:A∈CI L ↔ ∃w∈L,w.o=true∧w.f=A:=by simp only [CI,List.mem_map,List.mem_filter];exact⟨fun⟨w,⟨h1,h2⟩,h3⟩=>⟨w,h1,h2,h3⟩,fun⟨w,h1,h2,h3⟩=>⟨w,⟨h1,h2⟩,h3⟩⟩
theorem acJ(h:okL L=true):V8 L∈CI L:=by
 unfold okL at h;unfold V8;cases e:CI L with
 | nil=>rw [e]at h;cases h
 | cons x l=>exact GN
theorem atN(h:∀w∈L,w.k=true):lkL n L=L:=by
 unfold lkL
 conv=>rhs;rw [<-List.map_id L]
 exact List.map_congr_left fun w hw=>if_pos (h w hw)
theorem V9(hl:L.length<1000)(h:∀A∈CI L,NA A):aC 112 [aJ b9 (CI L)] (.dK [.ag (b9 (V8 L)), .bool (okL L)]):=by
 have hf:=acB L;unfold V8 okL;cases e:CI L with
 | nil=>exact aeY
 | cons x l =>
  rw [e]at h hf;have hl':l.length<1000000:=by simp at hf;omega
  have hm:NA (LD mW x l):=h _ GN;exact AA hl' (fun y hy b hb=>(h y (List.mem_cons_of_mem _ hy)).cmp (h b hb)) hm.fr
section
variable {PL:List ZX} {lo:A9} {g:FuncId} {bR:List PV} {C B:A9->List CE} (D:Bld PL lo g bR C B) {n:A9} (hn:NA n)
include D hn
theorem anj(h:Wat PL n L)(e:Int):oA 120 [] 95 12 (co true n false L e) (co true n false (lkL n L) e) (.dK []):=
 JW (by have:=h.len;omega) (fun h=>by cases h) (w5 hn.least) fun w hw _=>by obtain⟨a,ha,e⟩:=h.pol w hw;rw [e];exact(D.okp a ha).next hn
theorem ank(h:Wat PL n L)(e:Int):oA 51 [] 95 12 (co true n false L e) (co true n false (lkL n L) e) (.dK [.ag (b9 (V8 (lkL n L))), .bool (okL (lkL n L))]):=by have hM:=(h.look D.okp).1;refine JX (by have:=hM.len;omega) (anj D hn h e) (V9 hM.len fun A hA=>?_);obtain⟨w,hw,ho,rfl⟩:=rX.1 hA;exact(hM.kno w hw ho).1
omit D in
theorem anl{m:A9}(hL:Wat PL m L)(hk:∀w∈L,w.k=true)(e:Int):oA 51 [] 95 12 (co true n false L e) (co true n false L e) (.dK [.ag (b9 (V8 L)), .bool (okL L)]):=by
 have h1:=JW (b:=true) (n:=n) (z:=false) (L:=L) (e:=e) (R:=fun w=>KG w.p n) (by have:=hL.len;omega) (fun h=>by cases h) (w5 hn.least) fun w hw hw'=>by rw [hk w hw]at hw';cases hw'
 have h2:L.map (JV fun w=>KG w.p n)=L:=atN hk;rw [h2]at h1;refine JX (by have:=hL.len;omega) h1 (V9 hL.len fun A hA=>?_);obtain⟨w,hw,ho,rfl⟩:=rX.1 hA;exact(hL.kno w hw ho).1
end
end Go.Proofs.YtiobceocpabjdaaGreat
namespace Go.Proofs.YtiobceocpabjdaaGreat
open Go Pm
set_option maxHeartbeats 2000000 in
theorem JY{l:List CE}(hl:l.length<1048576)(hz:∀x∈l,x.z=false∧aC 107 [Po x.p,Po x.p] (.bool true)):aC 34 [aJ i9 l,aJ i9 l] (.bool true):=by
 apply cG [(0,aJ i9 l),(1,aJ i9 l)] Tryz.func34;apply aQ [0,1];apply cQ [0,1,10]
 refine W.cond ⟨_,rfl,fun h=>?_,fun h=>?_⟩
 ·simp at h
 ·apply W.skip;apply eE [0,1,12,13]
  refine W.bB (fun k σ=>∃(i:Nat),bF σ [(0,aJ i9 l),(1,aJ i9 l),(12,aB l.length),(13,aB i)] fun rows clk=>i+k=l.length) l.length ?_ ?_
  ·exact⟨_, .refl,0,_,_,rfl,aA⟩
  rintro k _ ⟨i,rows,clk,rfl,tM⟩;apply cN [0,1,12,13,14]
  refine W.cond ⟨_,rfl,fun h=>?_,fun h=>?_⟩
  ·have hi:i<l.length:=(by simp at h;omega);obtain⟨hz1,k1⟩:=hz _ (bO hi);have hc:i9 (nth l i) = [aB (nth l i).t.k,aB (nth l i).t.a,aB (nth l i).t.b,aB (nth l i).t.c,aB (nth l i).t.d,Po (nth l i).p,aB (nth l i).w]:=(by rw [iY,hz1];rfl);have q1:=apT;apply oR [0,1,5,12,13]
   refine W.TD (fun σ=>σ=⟨fa [(0,aJ i9 l),(1,aJ i9 l),(12,aB l.length),(13,aB i),(53, .bool false)],rows,clk⟩) (fun K hK=>?_) ?_
   ·simp (disch:=omega) [gw,hi,hc,q1,allI,mY];apply jW k1;exact hK _ _ (aD _ [0,1,12,13,53]) rfl
   rintro _ rfl
   refine W.cond ⟨_,rfl,fun h=>?_,fun h=>?_⟩
   ·simp at h
   ·apply W.skip;refine W.bY (fun K hK=>?_);simp (disch:=omega) [gw];exact hK _ ⟨k-1,_,aD _ [0,1,12,13],aA,i+1,_,_,rfl,aA⟩
  ·exact uW [4]
def RJ(P:RE->List Int)(x:RE):CE:=⟨x.t,false,P x,x.w⟩
set_option maxHeartbeats 2000000 in
theorem anm{l:List RE}{P:RE->List Int}(hl:l.length<1048576)(hT:∀x∈l,aC 100 [.sl (szc x.z x.q)] (Po (P x))):aC 36 [aJ fW l] (aJ i9 (l.map (RJ P))):=by
 apply cG [(0,aJ fW l)] Tryz.func36;apply fK [0] [0,3];refine W.nil 3 3 82 7 aG aF fun K hK=>?_;refine W.lw [0,3] hK ?_;clear hK K;simp;apply eE [0,3,6,7]
 refine W.bB (fun k σ=>∃(i v3:Nat),bF σ [(0,aJ fW l),(3, .own 3 v3 0 i),(6,aB l.length),(7,aB i)] fun rows clk=>i+k=l.length∧rows 3=some ⟨v3,82,7,emap i9 ((l.take i).map (RJ P))⟩) l.length ?_ ?_
 ·exact⟨_, .refl,0,_,_,_,rfl,aA,by simp [emap]⟩
 rintro k _ ⟨i,v3,rows,clk,rfl,tM,bK⟩;apply cN [0,3,6,7,8]
 refine W.cond ⟨_,rfl,fun h=>?_,fun h=>?_⟩
 ·have hi:i<l.length:=by simp at h;omega
  have AZ:((l.take i).map (RJ P)).length=i:=by simp;omega
  have fA:(l.take (i+1)).map (RJ P)=(l.take i).map (RJ P) ++ [RJ P (nth l i)]:=by rw [bZ hi,List.take_succ_eq_append_getElem hi,List.map_append];rfl
  have hTi:=hT _ (bO hi);generalize (l.take i).map (RJ P)=S at *;apply oR [0,3,4,6,7];refine W.K1 fun K hK=>?_;simp (disch:=omega) [gw,bK,hi,fL,AZ];apply j9 hTi;simp (disch:=omega) [gw,bK,hi,fL,AZ];refine aY (by intro p hp;rcases hp with (rfl | rfl | rfl | rfl | rfl | rfl) | rfl<;>simp [bE,jT,a9,aJ]) ?_;simp (disch:=omega) [gw,bK,hi,fL,AZ];refine hK _ ?_;clear hK K;refine W.bY (fun K hK=>?_);simp (disch:=omega) [gw];refine hK _ ⟨k-1,_,aD _ [0,3,6,7],aA,i+1,_,_,_,rfl,aA,?_⟩;rw [fA];simp [emap,RJ,iY];rfl
 ·have hi:i=l.length:=by simp at h;omega
  subst hi;rw [List.take_length]at bK;apply (gK);refine W.freeze 3 (by simp [bK]) fun K hK=>?_;simp [bK];refine hK _ ?_;clear hK K;apply aQ [2];apply W.ret;simp [go]
  try rw [List.take_of_length_le aG]
end Go.Proofs.YtiobceocpabjdaaGreat
namespace Go.Proofs.YtiobceocpabjdaaGreat
open Go Pm
open ZX hiding N W
variable {x:List Int}{c:List ZX}{an ad bn bd:Int}{A:A9}
def lcs(l:List Int):List PV:=[aJ aI l]
theorem ann(l:List Int):lcs l = [aJ aI l]:=rfl
@[simp] theorem atO{l:List (List Int)}:bP 1 (emap lcs l)=True:=cS fun _=>rfl
def reN(al:Nat->List Int)(w:Nat->Int)(i:Nat):RE:=⟨⟨5-(i:Int)%3,i,0,0,0⟩,false,emap ri (al i),w i,false,[],false⟩
def reL(al:Nat->List Int)(w:Nat->Int)(n:Nat):List RE:=(List.range n).map (reN al w)
theorem ajV(al:Nat->List Int)(w:Nat->Int)(n:Nat):reL al w (n+1)=reL al w n ++ [reN al w n]:=by simp [reL,List.range_succ]
theorem GO(al:Nat->List Int)(w:Nat->Int)(n:Nat):(reL al w n).length=n:=by simp [reL]
set_option maxHeartbeats 2000000 in
theorem ae6{ps:List (List Int)}(hl:ps.length<9223372036854775808){al:Nat->List Int}{w:Nat->Int}
  (hM:∀i,i<ps.length->i<5->aC 114 [aJ aI (nth ps i),aB 4] (PI (al i)))
  (hA:∀i,i<ps.length->i<5->aC 115 [PI (al i), .ag (eT x c an ad bn bd)] (aB (w i))) :
  aC 46 [aJ lcs ps, .ag (eT x c an ad bn bd)] (aJ fW (reL al w (min ps.length 5))):=by
 simp only [eT]at *;apply cG [(0,aJ lcs ps),(1, .ag (eT x c an ad bn bd))] Tryz.func46;apply fK [0,3] [0,3,5];refine W.nil 5 5 85 9 aG aF fun K hK=>?_;refine W.lw [0,3,5] hK ?_;clear hK K;simp;apply eE [0,3,5,6]
 refine W.bB (fun k σ=>∃(i v3 v5:Nat),bF σ [(0,aJ lcs ps),(3, .ptr 3 v3 0 0),(5, .own 5 v5 0 i),(6,aB i)] fun rows clk=>i+k=min ps.length 5∧rows 3=some ⟨v3,49,10,[eT x c an ad bn bd]⟩∧rows 5=some ⟨v5,85,9,emap fW (reL al w i)⟩) (min ps.length 5) ?_ ?_
 ·exact⟨_,aD _ [0,3,5,6],0,_,_,_,_,rfl,aA,by simp [eT],by simp [reL,emap]⟩
 rintro k _ ⟨i,v3,v5,rows,clk,rfl,tM,bK,dX⟩;apply W.seq
 refine W.fI (fun σ=>∃(b:Bool),σ=⟨fa [(0,aJ lcs ps),(3, .ptr 3 v3 0 0),(5, .own 5 v5 0 i),(6,aB i),(15, .bool b)],rows,clk⟩∧(b=true↔(i<ps.length∧i<5))) (fun K hK=>?_) ?_
 ·by_cases h1:i<ps.length
  ·apply eV h1;exact hK _ _ (aD _ [0,3,5,6,15]) ⟨_,rfl,by simp [h1];omega⟩
  ·apply eV h1;exact hK _ _ (aD _ [0,3,5,6,15]) ⟨_,rfl,by simp [h1]⟩
 rintro _ ⟨b,rfl,hbb⟩
 refine W.cond ⟨_,rfl,fun h=>?_,fun h=>?_⟩
 ·obtain⟨hi,h5⟩:=hbb.1 h;have m:=hM i hi h5;have a:=hA i hi h5;have hlen:=GO al w i;have fA:=ajV al w i;generalize hS':reL al w (i+1)=S' at *;generalize reL al w i=S at *;simp only [eT]at bK;apply (iE);apply W.sr;simp (disch:=omega) [gw,hi,ann];apply jW m;apply cO [0,3,5,6,7];refine W.bY fun K hK=>?_;apply j0 bK a;apply j1 dX hlen;refine aY (fun p hp=>by rcases hp with (h|h|h|h)|h|h|h<;>subst h<;>simp) ?_;apply j1 dX hlen
  try (refine aY aA ?_;simp (disch:=omega) [gw,dX,hlen])
  refine W.lw [0,3,5,6] hK ?_;clear hK K;simp;refine W.bY (fun K hK=>?_);simp (disch:=omega) [gw];refine hK _ ⟨k-1,_,aD _ [0,3,5,6],aA,i+1,_,_,_,_,rfl,aA,by simp [bK,eT],by rw [hS',fA];simp [emap,hlen,fW,reN,aJ]⟩
 ·have hi:i=min ps.length 5:=by
   have:¬(i<ps.length∧i<5):=fun hh=>by rw [hbb.2 hh]at h;cases h
   omega
  subst hi;apply (gK);refine W.freeze 5 (by simp [dX]) fun K hK=>?_;simp [dX];rw [List.take_of_length_le (by rw [GO];omega)];refine hK _ ?_;clear hK K;exact eY [4]
theorem WA{ps:List (List Int)}{t:A9}{l:List RE}{m:List CE}(h1:aC 20 [.ag (b9 t)] (.ag (eT x c an ad bn bd)))(h2:aC 46 [aJ lcs ps, .ag (eT x c an ad bn bd)] (aJ fW l))(h3:aC 36 [aJ fW l] (aJ i9 m)) :
  aC 56 [.ag (b9 t), .rd [aJ lcs ps]] (aJ i9 m):=by
 simp only [gQ,eT]at *;apply cG [(0, .ag [.sl t.y, .bool t.s, .sl t.d, .bool t.s', .sl t.d', .bool t.u, .sl t.e, .bool t.u', .sl t.e']),(1, .rd [aJ lcs ps])] Tryz.func56;apply kR [1,2];apply kZ h1;apply fV h2 h3;exact gI [3]
theorem FB(l:List Int):FT (made l 4):=by obtain⟨h1,h2⟩:=amY l 4;have e1:3*9^4=19683:=aF;exact⟨(ab6 l 4).1,⟨(BZ.apx (s:=18) (n:=5) (by show _<262144;omega) h2).mono (Nat.le_refl _) aF,aF,aF,aF⟩⟩
theorem szA:SzC S18 6 18 6:=⟨aF,aF,aF,aF,aF,aF,aF,aF⟩
noncomputable def mP(ps:List (List Int))(i:Nat):ZX:=made (nth ps i) 4
noncomputable def PL(ps:List (List Int)):List ZX:=(List.range (min ps.length 5)).map (mP ps)
noncomputable def wS(A:A9)(a:ZX):Int:=afU (bN (jY A).1 (ex (jY A).1 (jY A).2)) a
noncomputable def rA(ps:List (List Int))(A:A9):List RE:=reL (fun i=>(mP ps i).l) (fun i=>wS A (mP ps i)) (min ps.length 5)
noncomputable def cC(ps:List (List Int))(A:A9):List CE:=(List.range (min ps.length 5)).map fun(i:Nat)=>⟨⟨5-(i:Int)%3,(i:Int),0,0,0⟩,false,(mP ps i).l,wS A (mP ps i)⟩
theorem ajW(ps:List (List Int))(A:A9):(cC ps A).length<=5:=by simp [cC];omega
theorem atP{ps:List (List Int)}{c:CE}(h:c∈cC ps A):c.z=false ∧ ∃a∈PL ps,c.p=a.l:=by obtain⟨i,hi,rfl⟩:=List.mem_map.1 h;exact⟨rfl,mP ps i,List.mem_map.2 ⟨i,hi,rfl⟩,rfl⟩
theorem DZ(h:NA A):aC 20 [.ag (b9 A)] (QA (jY A).1 (aO (jY A).1) (ex (jY A).1 (jY A).2)):=by obtain⟨⟨a,_⟩,e⟩:=jD h;have:=a.I.ajd a.q1 a.q2 aF;have e3:(.ag (b9 (gN (jY A))):PV)=GA (jY A).1 (jY A).2:=rfl;rw [e]at e3;rw [e3];exact this
section
variable {ps:List (List Int)} (hl:ps.length<9223372036854775808) (hb:∀l∈ps,(∀x∈l, -9223372036854775808<=x∧x<9223372036854775808)∧l.length<9223372036854775808) {A:A9} (hA:NA A)
include hl hb hA
theorem aaD:aC 46 [aJ lcs ps,QA (jY A).1 (aO (jY A).1) (ex (jY A).1 (jY A).2)] (aJ fW (rA ps A)):=
 ae6 (x:=(jY A).1.l) (c:=aO (jY A).1) hl (fun i hi _=>aiJ _ (hb _ (bO hi)).2 (hb _ (bO hi)).1 4 aF) fun i _ _=>(jD hA).1.b.atw szA (FB _).lay.bz (apK _ _)
omit hl hb hA in
theorem atQ:aC 36 [aJ fW (rA ps A)] (aJ i9 (cC ps A)):=by
 have:=anm (l:=rA ps A) (P:=fun x=>(mP ps x.t.a.toNat).l) (by rw [rA,GO];omega) fun x hx=>by obtain⟨i,_,rfl⟩:=List.mem_map.1 hx;exact GG (FB _).lay.bz aF aF
 have e:(rA ps A).map (RJ fun x=>(mP ps x.t.a.toNat).l)=cC ps A:=by rw [rA,reL,cC,List.map_map];exact List.map_congr_left fun i _=>rfl
 rwa [e]at this
theorem atS:aC 56 [.ag (b9 A), .rd [aJ lcs ps]] (aJ i9 (cC ps A)):=WA (DZ hA) (aaD hl hb hA) atQ
omit hl hb hA in
theorem apV:aC 35 [aJ i9 (cC ps A)] (aJ i9 (tR (cC ps A))):=
 DG (by have:=ajW ps A;omega) fun x hx=>by obtain⟨i,_,rfl⟩:=List.mem_map.1 hx;have bz:=(FB (nth ps i)).lay.bz;have nN:=fG (x:=(mP ps i).l) (bz.pb aF aF);rw [(mP ps i).c]at nN;exact nN
end
theorem ajX{l:List CE}{x:CE}(h:x∈tR l):∃y∈l,x=y.nz:=by
 suffices hs:∀(l S:List CE),x∈l.foldl (BO CE.t) S->x∈S∨x∈l by
  rcases hs _ _ h with h | h
  ·cases h
  ·obtain⟨y,hy,rfl⟩:=List.mem_map.1 h;exact⟨y,hy,rfl⟩
 intro l
 induction l with
 | nil=>intro S h;exact .inl h
 | cons a l ih =>
  intro S h
  rcases ih _ h with h | h
  ·simp only [BO,List.mem_append,List.mem_cons]at h
   rcases h with h | rfl | h
   ·exact .inl (List.mem_of_mem_take h)
   ·exact .inr aG
   ·exact .inl (List.mem_of_mem_drop h)
  ·exact .inr (List.mem_cons_of_mem _ h)
theorem ajY{ps:List (List Int)}{c:CE}(h:c∈tR (cC ps A)):c.z=false ∧ ∃a∈PL ps,c.p=a.l:=by obtain⟨y,hy,rfl⟩:=ajX h;obtain⟨h1,a,ha,h2⟩:=atP hy;exact⟨rfl,a,ha,by show y.v=a.l;unfold CE.v;rw [h1,if_neg aF];exact h2⟩
theorem aAi{ps:List (List Int)}:∀a∈PL ps,FT a:=fun a ha=>by obtain⟨i,_,rfl⟩:=List.mem_map.1 ha;exact FB _
theorem aFN{ps:List (List Int)}(hl:ps.length<9223372036854775808)(hb:∀l∈ps,(∀x∈l, -9223372036854775808<=x∧x<9223372036854775808)∧l.length<9223372036854775808){lo:A9}(GW:NA lo):Bld (PL ps) lo 56 [.rd [aJ lcs ps]] (cC ps) (fun A=>tR (cC ps A)) where
 okp:=aAi
 cer:=fun _ _ c hc=>ajY hc
 len:=fun A _=>by rw [IL];have:=ajW ps A;omega
 bld:=fun A hA=>atS hl hb hA
 FN:=fun A _=>apV
 lo:=GW
 hw:=rfl
 hm:=rfl
 GY:=rfl
end Go.Proofs.YtiobceocpabjdaaGreat
namespace Go.Proofs.YtiobceocpabjdaaGreat
open Go Pm
set_option maxHeartbeats 2000000 in
theorem ajZ{l:List RE}{P:RE->List Int}(hl:l.length<1048576)(hT:∀x∈l,aC 100 [.sl (szc x.z x.q)] (Po (P x))):AK env.P 36 (some (0,l.length)) [] 85 9 (emap fW l) (emap fW l) (aJ i9 (l.map (RJ P))):=by
 refine IP (E:=env) (fun _=>0) [] Tryz.func36 rfl cT cT (show 1<=32 by decide) (by intro q;simp) ?_;intro id ver fY aaw qW;simp only [hdP];apply fK [0] [0,3];refine W.nil 3 3 82 7 aG aF fun K hK=>?_;refine W.lw [0,3] hK ?_;clear hK K;simp;apply W.seq;apply fJ qW [0,3,6,7];apply W.block
 refine W.bB (fun k σ=>∃(i v3:Nat),bF σ [(0, .own (id+1000000) ver 0 l.length),(3, .own 3 v3 0 i),(6,aB l.length),(7,aB i)] fun rows clk=>i+k=l.length∧rows 3=some ⟨v3,82,7,emap i9 ((l.take i).map (RJ P))⟩∧rows (id+1000000)=some ⟨ver,85,9,emap fW l⟩ ∧ ∀j,j≠id->rows (j+1000000)=fY (j+1000000)) l.length ?_ ?_
 ·exact⟨_, .refl,0,_,_,_,rfl,aA,by simp [emap],by simp [qW],fun j hj=>by simp⟩
 rintro k _ ⟨i,v3,rows,clk,rfl,tM,bK,hrd,iR⟩;apply cN [0,3,6,7,8]
 refine W.cond ⟨_,rfl,fun h=>?_,fun h=>?_⟩
 ·have hi:i<l.length:=by simp at h;omega
  have AZ:((l.take i).map (RJ P)).length=i:=by simp;omega
  have fA:(l.take (i+1)).map (RJ P)=(l.take i).map (RJ P) ++ [RJ P (nth l i)]:=by rw [bZ hi,List.take_succ_eq_append_getElem hi,List.map_append];rfl
  have hTi:=hT _ (bO hi);generalize (l.take i).map (RJ P)=S at *;apply oR [0,3,4,6,7];refine W.K1 fun K hK=>?_;simp (disch:=omega) [gw,bK,hrd,hi,fL,AZ];apply j9 hTi;simp (disch:=omega) [gw,bK,hrd,hi,fL,AZ];refine aY (by intro p hp;rcases hp with (rfl | rfl | rfl | rfl | rfl | rfl) | rfl<;>simp [bE,jT,a9,aJ]) ?_;simp (disch:=omega) [gw,bK,hrd,hi,fL,AZ];refine hK _ ?_;clear hK K;refine W.bY (fun K hK=>?_);simp (disch:=omega) [gw];refine hK _ ⟨k-1,_,aD _ [0,3,6,7],aA,i+1,_,_,_,rfl,aA,?_,by simp [hrd],fun j hj=>by simp [iR j hj]⟩;rw [fA];simp [emap,RJ,iY];rfl
 ·have hi:i=l.length:=by simp at h;omega
  subst hi;rw [List.take_length]at bK;apply (gK);refine W.freeze 3 (by simp [bK]) fun K hK=>?_;simp [bK];refine hK _ ?_;clear hK K;apply aQ [2];apply W.ret;simp [go,UA,lJ,qC,hrd];rw [List.take_of_length_le aG];exact⟨rfl,fun j h1 h2=>PF (rows:=fY) (rows':=fun j=>if j=3 then none else rows j) (fun m hm=>by simp [iR m hm]) j h1 h2⟩
structure KN(ps:List (List Int))(ll:List Int)(k:Int)(A:A9)(x:List Int)(c:List ZX)(an ad bn bd:Int)(l0 S S':List RE)(C M1 M2:List CE)(c1 c2:List PV)(ok:Bool)(xv:PV)(r:A9)(bt:List WE):Prop where
 pick:aC 30 [aJ aI ll,aB k] (.ag (eT x c an ad bn bd))
 aIr:aC 46 [aJ lcs ps, .ag (eT x c an ad bn bd)] (aJ fW l0)
 toA:aC 29 [.ag (eT x c an ad bn bd)] (.ag (b9 A))
 RJ:aC 36 [aJ fW l0] (aJ i9 C)
 be:oA 42 [.ag (b9 A),aJ i9 C] 95 12 (co false A9.no true [] 0) c1 (.dK [])
 p1:∀q∈c1,bE q=true
 p2:∀q∈c2,bE q=true
 FN:jZ env.P 37 [aJ fW l0] 85 9 (emap fW S)
 len:S.length<1000
 aqH:S'.length=S.length
 ce:oA 47 [] 95 12 c1 c1 (aJ i9 M1)
 aLC:AK env.P 36 (some (0,S.length)) [] 85 9 (emap fW S) (emap fW S) (aJ i9 M2)
 same:aC 34 [aJ i9 M1,aJ i9 M2] (.bool true)
 now:oA 49 [] 95 12 c1 c1 (.ag (b9 A))
 fa:aC 20 [.ag (b9 A)] (.ag (eT x c an ad bn bd))
 aLD:aC 48 [.ag (eT x c an ad bn bd), .ag (eT x c an ad bn bd)] (aB 0)
 ev:oA 44 [] 95 12 c1 c1 (aB 0)
 next:AK env.P 50 (some (0,S.length)) [.ag (eT x c an ad bn bd)] 85 9 (emap fW S) (emap fW S') (.dK [xv, .bool ok])
 nx:oA 51 [] 95 12 c1 c2 (.dK [.ag (b9 r), .bool ok])
 ba:oA 52 [] 95 12 c2 c2 (aJ evc bt)
structure KM(x:List Int)(c:List ZX)(an ad bn bd:Int)(S':List RE)(xf:ZX)(xc:List ZX)(xp:Rat × Rat)(r:A9)(bt:List WE)(o:Nat->Bool)(fq:Nat->ZX)(cq:Nat->List ZX)(q:Nat->Rat × Rat)(z:Nat->Int)(n:Nat->Nat):Prop where
 right:aC 53 [.sl [b9 r], .sl [qa xf xc xp]] (.bool true)
 nz:∀i,i<S'.length->(nth S' i).z=false
 nq:∀i,i<S'.length->aC 54 [.sl (nth S' i).q, .ag (eT x c an ad bn bd)] (.dK [if o i=true then QA (fq i) (cq i) (q i)else NoA, .bool (o i)])
 cz:∀i,i<S'.length->o i=true->aC 48 [QA (fq i) (cq i) (q i),QA xf xc xp] (aB (z i))
 n0:n 0=0
 n1:∀i,i<S'.length->¬(o i=true∧z i=0)->n (i+1)=n i
 n2:∀i,i<S'.length->o i=true->z i=0->n (i+1)=n i+1∧n i<bt.length∧(nth bt (n i)).t=(nth S' i).t∧aC 53 [.sl [b9 (nth bt (n i)).f], .sl [qa xf xc xp]] (.bool true)
 nl:n S'.length=bt.length
 bl:bt.length<1000
noncomputable def aj0:Env:={ env with uT:=fun g=>vX g || g==36 }
@[simp] theorem aFO:aj0.P=env.P:=rfl
@[simp] theorem aB5:aj0.ty=env.ty:=rfl
@[simp] theorem aAj:aj0.writes=K3:=rfl
@[simp] theorem avT:aj0.uT=fun g=>vX g || g==36:=rfl
set_option maxHeartbeats 8000000 in
theorem yU{ps:List (List Int)}{ll:List Int}{k:Int}{A:A9}{x:List Int}{c:List ZX}{an ad bn bd:Int}{l0 S S':List RE}{C M1 M2:List CE}{c1 c2:List PV}{ok:Bool}{xv:PV}{r:A9}{bt:List WE}
  (F:KN ps ll k A x c an ad bn bd l0 S S' C M1 M2 c1 c2 ok xv r bt) (f0:ok=false->xv = .ag aeZ∧bt = [])
  (f1:ok=true -> ∃xf xc xp o fq cq q z n,xv=QA xf xc xp∧KM x c an ad bn bd S' xf xc xp r bt o fq cq q z n) :
  aC 7 [aJ lcs ps,aJ aI ll,aB k] (.bool true):=by
 have hw:=V3;obtain⟨hP,hC,hTA,hTC,hBe,p1,p2,hS,hl,hl',hCe,ano,hSm,hNo,hFA,hC0,hEv,hNx,hX,hBa⟩:=F;have pz:=iA false A9.no true [] 0;simp only [gQ,A9.no,eT]at *;refine dJ (E:=aj0) (fun _=>0) [(0,aJ lcs ps),(1,aJ aI ll),(2,aB k)] Tryz.func7 rfl cT cT (show 3<=145 by decide) aG ?_;apply gJ [0,1,2] hP [0,7];apply cK hC [7,8];apply aQ [7,8,9];apply nB hTA;apply (cV);refine ayA hTC rfl ?_;apply (cV);refine n6 hBe rfl rfl pz p1 (by simp [NT,A9.no]) ?_;apply bT [7,8,9];apply (tI);refine ahc hS 31 aG aG aG ?_;apply bT [7,8,9];have hpe:∀S:List RE,∀e∈emap fW S,∀p∈e,bE p=true:=fun S e he p hp=>by obtain⟨y,_,rfl⟩:=List.mem_map.1 he;exact List.all_eq_true.1 (BN y) p hp
 apply W.seq
 refine W.TD (fun σ=>∃(v7 v9 v31:Nat),bF σ [(7, .ptr 7 v7 0 0),(8, .own 31 v31 0 S.length),(9, .ptr 9 v9 0 0),(47, .bool false)] fun rows clk=>rows 7=some ⟨v7,49,10,[eT x c an ad bn bd]⟩∧rows 9=some ⟨v9,95,12,[c1]⟩∧rows 31=some ⟨v31,85,9,emap fW S⟩) (fun K hK=>?_) ?_
 ·apply (cV);refine OX hCe rfl rfl p1 p1 aG ?_;apply (cV)
  try (refine aY (by decide +kernel) ?_)
  try simp (disch:=omega) [gw]
  (repeat (first | rw [if_pos (by decide +kernel)] | rw [if_neg (by decide +kernel)]))
  try simp (disch:=omega) [gw]
  refine aq0 ano rfl rfl (hpe S) (hpe S) aG ?_;apply (cV)
  try (refine aY (by decide +kernel) ?_)
  try simp (disch:=omega) [gw]
  (repeat (first | rw [if_pos (by decide +kernel)] | rw [if_neg (by decide +kernel)]))
  try simp (disch:=omega) [gw]
  apply jW hSm
  try (refine aY (by decide +kernel) ?_)
  try simp (disch:=omega) [gw]
  (repeat (first | rw [if_pos (by decide +kernel)] | rw [if_neg (by decide +kernel)]))
  try simp (disch:=omega) [gw]
  refine OX hNo rfl rfl p1 p1 aG ?_;apply (cV)
  try (refine aY (by decide +kernel) ?_)
  try simp (disch:=omega) [gw]
  (repeat (first | rw [if_pos (by decide +kernel)] | rw [if_neg (by decide +kernel)]))
  try simp (disch:=omega) [gw]
  apply jW hFA
  try (refine aY (by decide +kernel) ?_)
  try simp (disch:=omega) [gw]
  (repeat (first | rw [if_pos (by decide +kernel)] | rw [if_neg (by decide +kernel)]))
  try simp (disch:=omega) [gw]
  apply jW hC0
  try (refine aY (by decide +kernel) ?_)
  try simp (disch:=omega) [gw]
  (repeat (first | rw [if_pos (by decide +kernel)] | rw [if_neg (by decide +kernel)]))
  try simp (disch:=omega) [gw]
  refine OX hEv rfl rfl p1 p1 aG ?_;apply (cV)
  try (refine aY (by decide +kernel) ?_)
  try simp (disch:=omega) [gw]
  (repeat (first | rw [if_pos (by decide +kernel)] | rw [if_neg (by decide +kernel)]))
  try simp (disch:=omega) [gw]
  exact hK _ _ (aD _ [7,8,9,47]) ⟨_,_,_,_,_,rfl,aG,aG,aG⟩
 rintro _ ⟨v7,v9,v31,rows,clk,rfl,yP,hr9,CM⟩;simp only [eT]at yP
 refine W.cond ⟨_,rfl,fun h=>?_,fun h=>?_⟩
 ·simp at h
 apply W.skip;cases ok with
 | false =>
  obtain⟨rfl,rfl⟩:=f0 rfl;apply TG yP;refine agP hNx rfl rfl (hpe S) (hpe S') (by simp [CM]) ?_;apply bT [9,11];apply (tI);refine n6 hX rfl rfl p1 p2 (by simp [hr9]) ?_;apply bT [9,11,13];apply (tI);refine n6 hBa rfl rfl p2 p2 aG ?_;apply bT [11,13,14];apply cQ [11,13,14,65]
  refine W.cond ⟨_,rfl,fun h=>?_,fun h=>?_⟩
  ·exact C7 hw [6]
  ·simp at h
 | true =>
  obtain⟨xf,xc,xp,o,fq,cq,q,z,n,rfl,fr,fz,fn,fc,n0,n1,n2,nl,bl⟩:=f1 rfl;simp only [QA,qa,List.cons_append,List.nil_append,eT,NoA,gQ]at hNx fr fn fc n2;apply TG yP;refine agP hNx rfl rfl (hpe S) (hpe S') (by simp [CM]) ?_;apply bT [7,8,9,10,11];apply (tI);refine n6 hX rfl rfl p1 p2 (by simp [hr9]) ?_;apply bT [7,8,9,10,11,12,13];apply (tI);refine n6 hBa rfl rfl p2 p2 aG ?_;apply bT [7,8,10,11,12,13,14];apply cQ [7,8,10,12,14,65]
  refine W.cond ⟨_,rfl,fun h=>?_,fun h=>?_⟩
  ·simp at h
  apply (pK);apply cK fr [7,8,10,14,82]
  refine W.cond ⟨_,rfl,fun h=>?_,fun h=>?_⟩
  ·simp at h
  apply W.skip;apply aQ [7,8,10,14,15];apply eE [7,8,10,14,15,84,85]
  refine W.bB (fun m σ=>∃(i v7 v10:Nat),bF σ [(7, .ptr 7 v7 0 0),(8, .own 31 v31 0 S.length),(10, .ptr 10 v10 0 0),(14,aJ evc bt),(15,aB (n i)),(84,aB S.length),(85,aB i)] fun rows clk=>i+m=S.length∧rows 7=some ⟨v7,49,10,[eT x c an ad bn bd]⟩∧rows 10=some ⟨v10,49,10,[qa xf xc xp]⟩∧rows 31=some ⟨v31,85,9,emap fW S'⟩) S.length ?_ ?_
  ·exact⟨_, .refl,0,_,_,_,_,by rw [n0];rfl,aA,by simp [yP,eT],by simp [qa],aG⟩
  clear yP hr9 CM rows clk;rintro m _ ⟨i,v7,v10,rows,clk,rfl,him,yP,tU,CM⟩;simp only [eT,qa,List.cons_append,List.nil_append]at yP tU;apply cN [7,8,10,14,15,84,85,86]
  refine W.cond ⟨_,rfl,fun h=>?_,fun h=>?_⟩
  ·have hi:i<S.length:=(by simp at h;omega);have jF:i<S'.length:=aA;have hz:=fz i jF;have hn:=fn i jF;have hc:=fc i jF;have rB:=n1 i jF;have hn2:=n2 i jF;apply W.skip
   refine W.dS (fun σ=>∃(v7 v10:Nat),bF σ [(7, .ptr 7 v7 0 0),(8, .own 31 v31 0 S.length),(10, .ptr 10 v10 0 0),(14,aJ evc bt),(15,aB (n (i+1))),(84,aB S.length),(85,aB i)] fun rows clk=>rows 7=some ⟨v7,49,10,[eT x c an ad bn bd]⟩∧rows 10=some ⟨v10,49,10,[qa xf xc xp]⟩∧rows 31=some ⟨v31,85,9,emap fW S'⟩) ?_ ?_
   ·apply aQ [7,8,10,14,15,16,84,85];cases ho:o i with
    | false =>
     rw [ho]at hn;simp only [Bool.false_eq_true,if_false]at hn;have rB:=rB (by rw [ho];simp);apply W.sd;simp (disch:=omega) [gw,CM,fL,hi,jF,hz,sc,yP];apply jW hn;rw [if_pos cT];apply bT [7,8,10,14,15,18,84,85];apply cQ [7,8,10,14,15,84,85,105]
     refine W.cond ⟨_,rfl,fun h=>?_,fun h=>?_⟩
     ·apply (gK);exact⟨_,aD _ [7,8,10,14,15,84,85],_,_,_,_,by rw [rB];rfl,by simp [yP,eT],by simp [tU,qa],by simp [CM]⟩
     ·simp at h
    | true =>
     rw [ho]at hn;simp only [if_true]at hn;have hc:=hc ho;apply W.sd;simp (disch:=omega) [gw,CM,fL,hi,jF,hz,sc,yP];apply jW hn;rw [if_pos cT];apply bT [7,8,10,14,15,16,17,18,84,85];apply W.seq;apply oQ tU hc;apply bT [7,8,10,14,15,16,84,85,105]
     refine W.cond ⟨_,rfl,fun h=>?_,fun h=>?_⟩
     ·have h:¬z i=0:=(by simpa using h);have rB:=rB (fun hh=>h hh.2);apply (gK);exact⟨_,aD _ [7,8,10,14,15,84,85],_,_,_,_,by rw [rB];rfl,by simp [yP,eT],by simp [tU,qa],by simp [CM]⟩
     ·have h:z i=0:=(by simpa using h);obtain⟨e1,e2,e3,e4⟩:=hn2 ho h;have e5:¬bt.length<=n i:=aA;have q1:=apT;apply (pK);apply W.sd
      (try (refine aY (of_decide_eq_true cT) ?_));(try simp (maxSteps:=4000000) (disch:=omega) [gw,tU,CM,fL,RD,hi,jF,e2,e3,e5,q1,allI,mY]);(repeat rw [if_pos cT]);(try simp (maxSteps:=4000000) (disch:=omega) [gw,tU,CM,fL,RD,hi,jF,e2,e3,e5,q1,allI,mY])
      apply jW e4;apply cO [7,8,10,14,15,84,85,134]
      refine W.cond ⟨_,rfl,fun h=>?_,fun h=>?_⟩
      ·simp at h
      apply W.skip;refine W.bY (fun K hK=>?_);simp (disch:=omega) [gw];exact hK _ ⟨_,aD _ [7,8,10,14,15,84,85],_,_,_,_,by rw [e1];push_cast;rfl,by simp [yP,eT],by simp [tU,qa],by simp [CM]⟩
   clear yP tU CM rows clk;rintro _ ⟨v7,v10,rows,clk,rfl,yP,tU,CM⟩;refine W.bY (fun K hK=>?_);simp (disch:=omega) [gw];refine hK _ ⟨m-1,_,aD _ [7,8,10,14,15,84,85],aA,i+1,_,_,_,_,rfl,aA,yP,tU,CM⟩
  ·have hi:i=S.length:=(by simp at h;omega);subst hi;rw [hl']at nl;apply (jV);simp (disch:=omega) [gw,nl];apply jW hw;exact pJ [6]
theorem WB{α β:Type}[Inhabited α][Inhabited β]{tg:α->Tg}{tg':β->Tg}{f:α->β}(hf:∀x,tg' (f x)=tg x){t:Tg}{l:List α}:∀k,k<=l.length->zJ tg' t (l.map f) k=zJ tg t l k
 | 0,_=>rfl
 | k+1,h=>by rw [s8,s8,IK aA,hf,WB hf k aA]
theorem RK{α β:Type}[Inhabited α][Inhabited β]{tg:α->Tg}{tg':β->Tg}{f:α->β}(hf:∀x,tg' (f x)=tg x)(l:List α):(FN tg l).map f=FN tg' (l.map f):=by
 suffices h:∀(l S:List α),(l.foldl (BO tg) S).map f=(l.map f).foldl (BO tg') (S.map f)by simpa [FN]using h l []
 intro l
 induction l with
 | nil=>intro S;rfl
 | cons x l ih =>
  intro S;rw [List.foldl_cons,ih,List.map_cons,List.foldl_cons];congr 1;simp only [BO,List.length_map,hf,WB hf S.length (Nat.le_refl _)];simp
end Go.Proofs.YtiobceocpabjdaaGreat
