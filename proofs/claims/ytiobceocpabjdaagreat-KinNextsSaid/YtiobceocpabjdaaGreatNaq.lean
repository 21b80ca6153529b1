import Derived.Test.YtiobceocpabjdaaGreatNap
set_option linter.unusedSimpArgs false
set_option linter.unusedVariables false
namespace Go.Proofs.YtiobceocpabjdaaGreat
open Go Pm
open ZX hiding N W
variable {f:ZX}{B C:A9}{c:WE->Int}{M:List WE}{i:Nat}
theorem acK{p:Rat × Rat}(h:Ex f p):ex f p=p:=by
 unfold ex
 split
 ·rename_i h0;have:=h h0;obtain⟨a,b⟩:=p;simp only at this;subst this;rfl
 ·rfl
noncomputable abbrev dV(A:A9):PV:=QA (jY A).1 (aO (jY A).1) (ex (jY A).1 (jY A).2)
theorem D0{A:A9}(hA:NA A)(hB:NA B):aC 48 [dV A,dV B] (aB (mW A B)):=by obtain⟨⟨a0,a⟩,h⟩:=jD hA;obtain⟨⟨b0,b⟩,h'⟩:=jD hB;have:=a.aFA b cp2 aF aF;rw [lU (xU a0.A).2 (xU b0.A).2]at this;exact this
theorem uJ{A:A9}:mW A B<0 ↔ ∃t,cA A t∧¬cA B t:=ajP
theorem GP{A:A9}(hA:NA A)(hB:NA B):mW A B<0↔0<mW B A:=anb hA.up hB.up
theorem aj1{A:A9}(hA:NA A)(hB:NA B)(h1:mW A B<0)(h2:mW B C<0):mW A C<0:=by
 obtain⟨t,t1,t2⟩:=uJ.1 h1;obtain⟨s,s1,s2⟩:=uJ.1 h2
 by_cases hts:t<=s
 ·exact uJ.2 ⟨s,hA.up _ _ t1 hts,s2⟩
 ·exact absurd (hB.up _ _ s1 aT) t2
theorem aaE(A:A9):¬mW A A<0:=fun h=>by obtain⟨t,t1,t2⟩:=uJ.1 h;exact t2 t1
theorem aAl{A:A9}(h:mW A C<0):mW A B<0∨mW B C<0:=by
 obtain⟨t,t1,t2⟩:=uJ.1 h
 by_cases hb:cA B t
 ·exact .inr (uJ.2 ⟨t,hb,t2⟩)
 ·exact .inl (uJ.2 ⟨t,t1,hb⟩)
theorem anp{A:A9}(hA:NA A)(hB:NA B)(h:mW A B=0)(t:Rat):cA A t↔cA B t:=by
 have h1:¬mW A B<0:=aA;have h2:¬mW B A<0:=by rw [GP hB hA];omega
 exact⟨fun ht=>Classical.byContradiction fun hb=>h1 (uJ.2 ⟨t,ht,hb⟩),fun ht=>Classical.byContradiction fun hb=>h2 (uJ.2 ⟨t,ht,hb⟩)⟩
theorem aAm{A:A9}(hB:NA B)(hC:NA C)(h:mW B C=0):mW A B=mW A C:=lU (fun _=>Iff.rfl) (anp hB hC h)
theorem atU{A:A9}(hA:NA A)(hB:NA B)(h1:¬mW A B<0)(h2:¬mW B A<0):mW A B=0:=by have:=GP hB hA;omega
theorem WC{g:ZX}{c d:List ZX}{r:Rat × Rat->Rat × Rat}{l m:List (Rat × Rat)}(hl:l.length=m.length)(J9:l.length<1000000)(hv:∀i,i<l.length->aC 121 [GA f (nth l i)] (.bool true)∧aC 20 [GA f (nth l i)] (QA f c (r (nth l i)))∧aC 48 [QA f c (r (nth l i)),QA g d (nth m i)] (aB 0)) :
  aC 53 [aJ (ga f) l,aJ (qa g d) m] (.bool true):=by
 apply cG [(0,aJ (ga f) l),(1,aJ (qa g d) m)] Tryz.func53;apply cN [0,1];have e1:((l.length:Int) != (m.length:Int))=false:=by rw [hl];simp
 apply W.sr;simp (disch:=omega) [gw,e1];apply cO [0,1,10]
 refine W.cond ⟨_,rfl,fun h=>?_,fun h=>?_⟩
 ·simp at h
 apply W.skip;apply eE [0,1,12,13]
 refine W.bB (fun k σ=>∃(i:Nat),bF σ [(0,aJ (ga f) l),(1,aJ (qa g d) m),(12,aB l.length),(13,aB i)] fun rows clk=>i+k=l.length) l.length ?_ ?_
 ·exact⟨_, .refl,0,_,_,rfl,aA⟩
 rintro k _ ⟨i,rows,clk,rfl,tM⟩;apply cN [0,1,12,13,14]
 refine W.cond ⟨_,rfl,fun h=>?_,fun h=>?_⟩
 ·have hi:i<l.length:=by simp at h;omega
  have J0:i<m.length:=aA;obtain⟨v1,v2,v3⟩:=hv i hi;simp only [GA,QA,qa,ga,List.cons_append,List.nil_append]at v1 v2 v3;apply (iE);apply kR [0,1,5,12,13];apply j7 hi J0 v1;apply j7 hi J0 v2;apply j7 hi J0 v3;apply HS hi J0 [0,1,12,13,34]
  refine W.cond ⟨_,rfl,fun h=>?_,fun h=>?_⟩
  ·simp at h
  ·apply W.skip;refine W.bY (fun K hK=>?_);simp (disch:=omega) [gw];refine hK _ ⟨k-1,_,aD _ [0,1,12,13],aA,i+1,_,_,rfl,aA⟩
 ·exact uW [4]
theorem WD{A:A9}(hA:NA A)(hB:NA B)(h:mW A B=0):aC 53 [.sl [b9 A], .sl [qa (jY B).1 (aO (jY B).1) (ex (jY B).1 (jY B).2)]] (.bool true):=by
 obtain⟨⟨a0,a⟩,e⟩:=jD hA;have e1:b9 A=ga (jY A).1 (jY A).2:=by have e2:b9 (gN (jY A))=ga (jY A).1 (jY A).2:=rfl;rwa [e]at e2
 have v3:=D0 hA hB;rw [h]at v3;rw [e1]
 exact WC (l:=[(jY A).2]) (m:=[ex (jY B).1 (jY B).2]) (r:=fun _=>ex (jY A).1 (jY A).2) rfl aG fun i hi=>by
  have hi0:i=0:=by simp at hi;exact hi
  subst hi0;exact⟨a0.I.valid a0.A (acv a0.I.nf a0.A) a0.q1 a0.q2 aF,a0.I.ajd a0.q1 a0.q2 aF,v3⟩
theorem acL:∀ {l:List A9} {x:A9},(∀y∈x::l,NA y) -> ∀y∈x::l,¬mW y (LD mW x l)<0
 | [],x,h,y,hy=>by rw [List.mem_singleton.1 hy];exact aaE x
 | z::l,x,h,y,hy=>by
  have e:LD mW x (z::l)=LD mW (if mW z x<0 then z else x) l:=rfl;have hx:=h x aG;have hz:=h z aG
  have ih:=acL (l:=l) (x:=if mW z x<0 then z else x) (fun y hy=>by
   rcases List.mem_cons.1 hy with rfl | hy
   ·split<;>assumption
   ·exact h y (by simp [hy]))
  rw [e]
  by_cases hc:mW z x<0
  ·rw [if_pos hc]at ih |-
   rcases List.mem_cons.1 hy with rfl | hy
   ·exact fun hh=>ih z aG (aj1 hz hx hc hh)
   ·rcases List.mem_cons.1 hy with rfl | hy
    ·exact ih _ aG
    ·exact ih y (by simp [hy])
  ·rw [if_neg hc]at ih |-
   rcases List.mem_cons.1 hy with rfl | hy
   ·exact ih _ aG
   ·rcases List.mem_cons.1 hy with rfl | hy
    ·intro hh
     rcases aAl (B:=x) hh with h1 | h1
     ·exact hc h1
     ·exact ih x aG h1
    ·exact ih y (by simp [hy])
def bx(o:Nat->Bool)(c:Nat->Nat->Int):Nat->Option Nat
 | 0=>none
 | i+1=>if o i=true then(match bx o c i with | none=>some i | some j=>if c i j<0 then some i else some j)else bx o c i
section
variable {o:Nat->Bool} {c:Nat->Nat->Int}
theorem RL:∀ {n},bx o c n=none -> ∀i,i<n->o i=false
 | n+1,h,i,hi=>by
  rw [bx]at h
  by_cases hn:o n=true
  ·rw [if_pos hn]at h;cases hb:bx o c n with
   | none=>rw [hb]at h;cases h
   | some j=>rw [hb]at h;simp only at h;split at h<;>cases h
  ·rw [if_neg hn]at h
   by_cases he:i=n
   ·subst he;simpa using hn
   ·exact RL h i aA
theorem GQ(ht:∀i j k,o i=true->o j=true->o k=true->c i j<0->c j k<0->c i k<0)(hi:∀i,¬c i i<0):∀ {n j},bx o c n=some j->j<n∧o j=true ∧ ∀i,i<n->o i=true->¬c i j<0
 | n+1,j,h=>by
  rw [bx]at h
  by_cases hn:o n=true
  ·rw [if_pos hn]at h;cases hb:bx o c n with
   | none =>
    rw [hb]at h;injection h with h
    subst h;refine⟨aA,hn,fun i hin MT=>?_⟩
    by_cases he:i=n
    ·subst he;exact hi _
    ·rw [RL hb i aA]at MT;cases MT
   | some q =>
    rw [hb]at h;obtain⟨q1,q2,q3⟩:=GQ ht hi hb;simp only at h
    by_cases hc:c n q<0
    ·rw [if_pos hc]at h;injection h with h
     subst h;refine⟨aA,hn,fun i hin MT hh=>?_⟩
     by_cases he:i=n
     ·subst he;exact hi _ hh
     ·exact q3 i aA MT (ht _ _ _ MT hn q2 hh hc)
    ·rw [if_neg hc]at h;injection h with h
     subst h;refine⟨aA,q2,fun i hin MT hh=>?_⟩
     by_cases he:i=n
     ·subst he;exact hc hh
     ·exact q3 i aA MT hh
  ·rw [if_neg hn]at h;obtain⟨q1,q2,q3⟩:=GQ ht hi h;refine⟨aA,q2,fun i hin MT=>?_⟩
   by_cases he:i=n
   ·subst he;exact absurd MT hn
   ·exact q3 i aA MT
end
def tgJ(j:Nat):Tg:=⟨5-(j:Int)%3,j,0,0,0⟩
def JJ(m:Nat):List Nat:=FN tgJ (List.range m)
theorem atV(m:Nat):(JJ m).length=m:=by rw [JJ,PE,List.length_range]
theorem anq:∀m,m<6->FN tgJ (JJ m)=JJ m:=by decide
section
variable (ps:List (List Int)) (A:A9)
noncomputable def ceJ(j:Nat):CE:=⟨tgJ j,false,(mP ps j).l,wS A (mP ps j)⟩
noncomputable def reJ(j:Nat):RE:=⟨tgJ j,false,emap ri (mP ps j).l,wS A (mP ps j),false,[],false⟩
noncomputable def weJ(j:Nat):WE:=⟨tgJ j,(mP ps j).l,wS A (mP ps j),true,(KG (mP ps j).l A).1,(KG (mP ps j).l A).2⟩
theorem anr:FO (rA ps A)=(JJ (min ps.length 5)).map (reJ ps A):=by rw [JJ,RK (tg:=tgJ) (tg':=RE.t) (f:=reJ ps A) (fun _=>rfl),FO,rA,reL,List.map_map];rfl
theorem ans:tR (cC ps A)=(JJ (min ps.length 5)).map (ceJ ps A):=by rw [JJ,RK (tg:=tgJ) (tg':=CE.t) (f:=ceJ ps A) (fun _=>rfl),tR,cC,List.map_map];rfl
theorem ant:tR ((JJ (min ps.length 5)).map (ceJ ps A))=(JJ (min ps.length 5)).map (ceJ ps A):=by
 have h:=anq (min ps.length 5) aA
 conv=>rhs;rw [<-h]
 rw [RK (tg:=tgJ) (tg':=CE.t) (f:=ceJ ps A) (fun _=>rfl),tR,List.map_map];rfl
theorem aFQ:lkL A (((JJ (min ps.length 5)).map (ceJ ps A)).map WE.new)=(JJ (min ps.length 5)).map (weJ ps A):=by rw [lkL,List.map_map,List.map_map];exact List.map_congr_left fun j _=>rfl
end
theorem D2{fq:Nat->ZX}{cq:Nat->List ZX}{L:Nat->List (Rat × Rat)}{l:List RE}{i:Nat}:∀n,(nth (nY fq cq L l n) i).t=(nth l i).t∧(nth (nY fq cq L l n) i).z=(nth l i).z∧(nth (nY fq cq L l n) i).q=(nth l i).q
 | 0=>⟨rfl,rfl,rfl⟩
 | n+1=>by
  rw [nY]
  by_cases hi:n=i
  ·subst hi
   by_cases hl:n<(nY fq cq L l n).length
   ·have e:nth ((nY fq cq L l n).set n (sK fq cq L n (nth l n))) n=sK fq cq L n (nth l n):=(by rw [nth,List.getElem?_set_self hl];rfl);rw [e];exact⟨rfl,rfl,rfl⟩
   ·rw [List.set_eq_of_length_le aA];exact D2 n
  ·have e:nth ((nY fq cq L l n).set n (sK fq cq L n (nth l n))) i=nth (nY fq cq L l n) i:=(by rw [nth,List.getElem?_set_ne hi];rfl);rw [e];exact D2 n
theorem JZ(h:i<M.length):yT c (M.take (i+1))=yT c (M.take i)++if ((nth M i).o&&decide (c (nth M i)=0))=true then [nth M i]else []:=by rw [List.take_add_one,List.getElem?_eq_getElem h,yT,List.filter_append,bZ h];show _++List.filter _ [M[i]]=_;rw [List.filter_cons,List.filter_nil];rfl
theorem anu(h:i<M.length)(hc:((nth M i).o&&decide (c (nth M i)=0))=true):(yT c (M.take i)).length<(yT c M).length∧nth (yT c M) (yT c (M.take i)).length=nth M i:=by
 have e:yT c M=yT c (M.take (i+1))++yT c (M.drop (i+1)):=by rw [yT,yT,yT,<-List.filter_append,List.take_append_drop]
 rw [JZ h,if_pos hc]at e;rw [e];refine⟨aG,?_⟩;rw [nth];simp
end Go.Proofs.YtiobceocpabjdaaGreat
