/- For every input the law KinNexts of chapter 17 returns true, and each argument reads afterwards as it read before. No conditions. -/
import Derived.Test.YtiobceocpabjdaaGreatRows
import Derived.Test.YtiobceocpabjdaaGreatNao
import Derived.Test.YtiobceocpabjdaaGreatNap
import Derived.Test.YtiobceocpabjdaaGreatNaq
set_option linter.unusedSimpArgs false
set_option linter.unusedVariables false
namespace Go.Proofs.YtiobceocpabjdaaGreat
open Go Pm
open ZX hiding N W
theorem FT.aj2{a:ZX}(h:FT a):aC 119 [PI a.l] (aJ (qa (fO a) (aO (fO a))) ((lO a).map (ex (fO a)))):=
 aai (m:=[]) (x7 h.ne) (aei h.lay aF h.ne) (JN h.iso.acm h.iso.z6 h.iso h.iso.s1)
theorem FT.dv{a:ZX}(h:FT a){i:Nat}(hi:i<(lO a).length):QA (fO a) (aO (fO a)) (nth ((lO a).map (ex (fO a))) i)=dV (gN (fO a,nth (lO a) i))∧NA (gN (fO a,nth (lO a) i)):=by have hn:=h.nn (bO hi);rw [qU hi,dV,aaC hn];exact⟨rfl, .of hn⟩
theorem FT.nxk{a:ZX}{A:A9}:(KG a.l A).1=decide (kx a A<(lO a).length)∧(kx a A<(lO a).length->(KG a.l A).2=gN (fO a,nth (lO a) (kx a A))):=by
 unfold KG;rw [atL]
 by_cases hk:kx a A<(lO a).length
 ·rw [if_pos hk,decide_eq_true hk];exact⟨rfl,fun _=>rfl⟩
 ·rw [if_neg hk,decide_eq_false hk];exact⟨rfl,fun h=>absurd h hk⟩
theorem FT.atX{a:ZX}(h:FT a){A:A9}(hA:NA A):(∀j,j<kx a A -> ∃z:Int,aC 48 [QA (fO a) (aO (fO a)) (nth ((lO a).map (ex (fO a))) j),dV A] (aB z)∧¬0<z) ∧
  (kx a A<(lO a).length -> ∃z:Int,aC 48 [QA (fO a) (aO (fO a)) (nth ((lO a).map (ex (fO a))) (kx a A)),dV A] (aB z)∧0<z):=by
 obtain⟨k1,k2,k3⟩:=CL a A
 refine⟨fun j hj=>?_,fun hk=>?_⟩
 ·obtain⟨e,hn⟩:=h.dv (i:=j) aA;rw [e];refine⟨_,D0 hn hA,?_⟩;rw [mW,V7 (h.nn (bO aA))];exact k2 j hj
 ·obtain⟨e,hn⟩:=h.dv (i:=kx a A) hk;rw [e];refine⟨_,D0 hn hA,?_⟩;rw [mW,V7 (h.nn (bO hk))];exact k3 hk
theorem FT.aAn{a:ZX}(h:FT a){A:A9}(hA:NA A):aC 54 [PI a.l,dV A] (.dK [if (KG a.l A).1=true then QA (fO a) (aO (fO a)) (nth ((lO a).map (ex (fO a))) (kx a A))else NoA, .bool (KG a.l A).1]):=by
 obtain⟨k1,_,_⟩:=CL a A;obtain⟨c1,c2⟩:=h.atX hA;have hl:=xT h.iso;change (lO a).length<=21 at hl;have hml:((lO a).map (ex (fO a))).length=(lO a).length:=List.length_map _;have:=aau (k:=kx a A) (y:=(jY A).1.l) (d:=aO (jY A).1) (an:=(ex (jY A).1 (jY A).2).1.num) (ad:=(ex (jY A).1 (jY A).2).1.den) (bn:=(ex (jY A).1 (jY A).2).2.num) (bd:=(ex (jY A).1 (jY A).2).2.den) h.aj2 aA aA c1 (fun hk=>c2 aA);rw [hml]at this;rw [(FT.nxk (a:=a) (A:=A)).1]
 by_cases hk:kx a A<(lO a).length
 ·rw [if_pos hk,decide_eq_true hk]at this;rw [decide_eq_true hk,if_pos rfl];exact this
 ·rw [if_neg hk,decide_eq_false hk]at this;rw [decide_eq_false hk,if_neg aF];exact this
theorem NN.anv{f:ZX}{p:Rat × Rat}(h:AN 59 5 7000 f p)(hx:Ex f p):NN (f,p):=by
 have I:nX S18 6 f:=⟨⟨h.I.lay.bz.mono aF aF,aF,Nat.le_trans (show 6+1<=2^3 by decide) (Nat.pow_le_pow_right aF aF),aF⟩,aF,h.I.nf,h.I.sq,aF⟩
 have a:AN S18 6 U18 f p:=⟨I,aF,h.A,h.q1.mono aF,h.q2.mono aF,aF,h.n8,h.b1,h.b2⟩
 refine⟨a,?_⟩;show AN S18 6 U18 f (ex f p);rw [acK hx];exact a
theorem acM{L:List WE}:okL L=false ↔ ∀w∈L,w.o=false:=by
 unfold okL
 constructor
 ·intro h w hw;cases ho:w.o with
  | false=>rfl
  | true =>
   have:w.f∈CI L:=rX.2 ⟨w,hw,ho,rfl⟩;cases e:CI L with
   | nil=>rw [e]at this;cases this
   | cons x l=>rw [e]at h;cases h
 ·intro h;cases e:CI L with
  | nil=>rfl
  | cons x l =>
   obtain⟨w,hw,ho,_⟩:=rX.1 (show x∈CI L by rw [e];simp);rw [h w hw]at ho;cases ho
theorem anw{L:List WE}(h:∀w∈L,w.o=true->NA w.f)(ho:okL L=true):NA (V8 L) ∧ ∀w∈L,w.o=true->¬mW w.f (V8 L)<0:=by
 obtain⟨w0,hw0,ho0,e0⟩:=rX.1 (acJ ho);refine⟨e0▸h w0 hw0 ho0,fun w hw how=>?_⟩;have hm:w.f∈CI L:=rX.2 ⟨w,hw,how,rfl⟩;have hN:∀y∈CI L,NA y:=fun y hy=>by obtain⟨v,hv,hov,e⟩:=rX.1 hy;exact e▸h v hv hov
 unfold V8;cases e:CI L with
 | nil=>rw [e]at hm;cases hm
 | cons x l=>rw [e]at hm hN;exact acL hN _ hm
theorem RM(ps:List (List Int))(l:List Int)(k:Int)(hb:∀l∈ps,(∀x∈l, -9223372036854775808<=x∧x<9223372036854775808)∧l.length<9223372036854775808)(hl:ps.length<9223372036854775808)(hlb:∀x∈l, -9223372036854775808<=x∧x<9223372036854775808)(D8:l.length<9223372036854775808)(hk : -9223372036854775808<=k∧k<9223372036854775808) :
  aC 7 [aJ lcs ps,aJ aI l,aB k] (.bool true):=by
 obtain⟨f,p,hP,B,hE,_,_⟩:=ajI (l:=l) (k:=k) D8 hk;have hn:=NN.anv B hE;obtain⟨A,rfl⟩:∃A,A=gN (f,p):=⟨_,rfl⟩
 have hA:NA (gN (f,p)):=.of hn;have hd:QA f (aO f) p=dV (gN (f,p)):=by rw [dV,aaC hn,acK hE]
 have hTA:aC 29 [QA f (aO f) p] (.ag (b9 (gN (f,p)))):=B.toA;rw [hd]at hP hTA;generalize gN (f,p)=A at *;clear hd hn B hE;have D:=aFN hl hb hA;obtain⟨m,hm⟩:∃m,m=min ps.length 5:=⟨_,rfl⟩
 have m5:m<=5:=aA;have hJ:=atV m;have eS:=anr ps A;have eC:=ans ps A;have eCC:=ant ps A;have eL:=aFQ ps A;rw [<-hm]at eS eC eCC eL;obtain⟨S,hS⟩:∃S,S=(JJ m).map (reJ ps A):=⟨_,rfl⟩
 obtain⟨SC,hSC⟩:∃SC,SC=(JJ m).map (ceJ ps A):=⟨_,rfl⟩
 obtain⟨M,hM⟩:∃M,M=(JJ m).map (weJ ps A):=⟨_,rfl⟩
 rw [<-hS]at eS;rw [<-hSC]at eC eCC eL;rw [<-hM]at eL;have Sl:S.length=m:=by rw [hS,List.length_map,hJ]
 have SCl:SC.length=m:=by rw [hSC,List.length_map,hJ]
 have Ml:M.length=m:=by rw [hM,List.length_map,hJ]
 obtain⟨a,ha⟩:∃a:Nat->ZX,a=fun i=>mP ps (nth (JJ m) i):=⟨_,rfl⟩
 have aok:∀i,FT (a i):=fun i=>by rw [ha];exact FB _
 obtain⟨o,ho⟩:∃o:Nat->Bool,o=fun i=>(KG (a i).l A).1:=⟨_,rfl⟩
 obtain⟨e,he⟩:∃e:Nat->A9,e=fun i=>(KG (a i).l A).2:=⟨_,rfl⟩
 have ho':∀i,o i=(KG (a i).l A).1:=fun i=>by rw [ho]
 have tE:∀i,e i=(KG (a i).l A).2:=fun i=>by rw [he]
 have Si:∀i,i<m->nth S i=reJ ps A (nth (JJ m) i):=fun i hi=>by rw [hS,qU aA]
 have Mi:∀i,i<m->nth M i=weJ ps A (nth (JJ m) i):=fun i hi=>by rw [hM,qU aA]
 have Mo:∀i,i<m->(nth M i).o=o i∧(nth M i).f=e i:=fun i hi=>by rw [Mi i hi,ho,he,ha];exact⟨rfl,rfl⟩
 have eN:∀i,o i=true->NA (e i):=fun i h=>by rw [ho']at h;rw [tE];exact((aok i).nx h).1
 have vq:∀i,o i=true->kx (a i) A<(lO (a i)).length∧QA (fO (a i)) (aO (fO (a i))) (nth ((lO (a i)).map (ex (fO (a i)))) (kx (a i) A))=dV (e i):=fun i h=>by rw [ho',(FT.nxk (a:=a i) (A:=A)).1]at h;have hk:=of_decide_eq_true h;refine⟨hk,?_⟩;rw [tE,(FT.nxk (a:=a i) (A:=A)).2 hk];exact((aok i).dv hk).1
 have ok':∀i,o i=decide (kx (a i) A<(lO (a i)).length):=fun i=>by rw [ho',(FT.nxk (a:=a i) (A:=A)).1]
 have hlO:∀i,((lO (a i)).map (ex (fO (a i)))).length=(lO (a i)).length:=fun i=>List.length_map _;have aFT:∀i,(lO (a i)).length<=21:=fun i=>xT (aok i).iso;have W0:Wat (PL ps) A (SC.map WE.new):=ani aA fun c hc=>by rw [<-eC]at hc;exact(ajY hc).2
 have WM:=W0.look D.okp (n:=A);rw [eL]at WM;have qB:∀i,i<m->nth M i∈M:=fun i hi=>bO aA;have hnx:=ank D hA W0 0;rw [eL]at hnx;have hkn:=anl (n:=A) hA WM.1 WM.2 0;have hY:=acE (b:=false) (n:=A9.no) (t:=A) (z:=true) (L:=[]) (e:=0) (later:=false) (C:=cC ps A) (S:=tR (cC ps A)) (G:=WE.new) (by have:=D.len _ D.lo;omega) (fun s hs=>(D.cer _ D.lo s hs).1) apV hA.least (fun _ _ _=>rfl) (fun h=>by cases h);rw [eC]at hY;have hBe:=NS hY;have hSc:(SC.map WE.new).map WE.c=SC:=by rw [hSC,List.map_map,List.map_map];exact List.map_congr_left fun j _=>rfl
 have aFU:aC 35 [aJ i9 SC] (aJ i9 SC):=by
  have:=DG (l:=SC) aA fun x hx=>by rw [hSC]at hx;obtain⟨i,_,rfl⟩:=List.mem_map.1 hx;have bz:=(FB (nth ps i)).lay.bz;have nN:=fG (x:=(mP ps i).l) (bz.pb aF aF);rw [(mP ps i).c]at nN;exact nN
  rwa [eCC]at this
 have hCe:=ae1 (b:=true) (n:=A) (z:=false) (L:=SC.map WE.new) (M:=SC) (e:=0) (by simp;omega) (fun h=>by cases h) (by rw [hSc];exact aFU);have pH:=JY (l:=SC) aA fun x hx=>by rw [hSC]at hx;obtain⟨i,_,rfl⟩:=List.mem_map.1 hx;refine⟨rfl,?_⟩;have hB:=RW (FB (nth ps i)).lay.bz;exact LF (Nat.lt_of_le_of_lt hB.len aF) fun c hc=>Nat.lt_of_le_of_lt (hB.sz c hc) aF
 have ano:AK env.P 36 (some (0,S.length)) [] 85 9 (emap fW S) (emap fW S) (aJ i9 SC):=by
  have:=ajZ (l:=S) (P:=fun x=>(mP ps x.t.a.toNat).l) aA fun x hx=>by rw [hS]at hx;obtain⟨i,_,rfl⟩:=List.mem_map.1 hx;exact GG (FB _).lay.bz aF aF
  have e1:S.map (RJ fun x=>(mP ps x.t.a.toNat).l)=SC:=by rw [hS,hSC,List.map_map];exact List.map_congr_left fun i _=>rfl
  rwa [e1]at this
 have hSo:=adX (l:=rA ps A) (by rw [rA,GO];omega);rw [eS]at hSo;have zF:=D0 hA hA;rw [show mW A A=0 from amU _]at zF
 have hNx:=
  V1 (l:=S) (y:=(jY A).1.l) (d:=aO (jY A).1) (an:=(ex (jY A).1 (jY A).2).1.num) (ad:=(ex (jY A).1 (jY A).2).1.den) (bn:=(ex (jY A).1 (jY A).2).2.num) (bd:=(ex (jY A).1 (jY A).2).2.den)
   (fq:=fun i=>fO (a i)) (cq:=fun i=>aO (fO (a i))) (L:=fun i=>(lO (a i)).map (ex (fO (a i)))) (k:=fun i=>kx (a i) A) (B:=bx o fun i j=>mW (e i) (e j)) aA
   (fun i hi _=>by rw [Si i aA];have:=(aok i).aj2;rw [ha]at this |-;exact this)
   (fun i hi h=>by rw [Si i aA]at h;cases h)
   (fun i=>by rw [hlO];have:=aFT i;omega) (fun i=>by rw [hlO];exact(CL (a i) A).1)
   (fun i _ j hj=>((aok i).atX hA).1 j hj) (fun i _ h=>((aok i).atX hA).2 (by rw [hlO]at h;exact h)) rfl
   (fun i _ h=>by have h0:¬o i=true:=(by rw [ok',decide_eq_true_eq];rw [hlO]at h;omega);rw [bx,if_neg h0])
   (fun i _ h hbn=>by have h0:o i=true:=(by rw [ok',decide_eq_true_eq];rw [hlO]at h;exact h);rw [bx,if_pos h0,hbn])
   (fun i j _ h hbj=>by have h0:o i=true:=(by rw [ok',decide_eq_true_eq];rw [hlO]at h;exact h);have hj:=(GQ (c:=fun i j=>mW (e i) (e j)) (fun i j k hi hj _=>aj1 (eN i hi) (eN j hj)) (fun i=>aaE _) hbj).2.1;refine⟨mW (e i) (e j),?_,by rw [bx,if_pos h0,hbj]⟩;rw [(vq i h0).2,(vq j hj).2];exact D0 (eN i h0) (eN j hj))
 have hbs:=fun {n j} (h:bx o (fun i j=>mW (e i) (e j)) n=some j)=>GQ (c:=fun i j=>mW (e i) (e j)) (fun i j k hi hj _=>aj1 (eN i hi) (eN j hj)) (fun i=>aaE _) h
 have ae7:(bx o (fun i j=>mW (e i) (e j)) S.length).isSome=okL M:=by
  cases hB:bx o (fun i j=>mW (e i) (e j)) S.length with
  | none =>
   have h0:=RL hB;refine(acM.2 fun w hw=>?_).symm;obtain⟨i,hi,rfl⟩:=List.getElem_of_mem hw;rw [<-bZ hi,(Mo i aA).1];exact h0 i aA
  | some b =>
   obtain⟨b1,b2,_⟩:=hbs hB;cases iD:okL M with
   | true=>rfl
   | false =>
    have h0:=acM.1 iD _ (qB b aA);rw [(Mo b aA).1,b2]at h0;cases h0
 have hS':=qV (fq:=fun i=>fO (a i)) (cq:=fun i=>aO (fO (a i))) (L:=fun i=>(lO (a i)).map (ex (fO (a i)))) (l:=S) S.length;have LR:=fun i=>D2 (fq:=fun i=>fO (a i)) (cq:=fun i=>aO (fO (a i))) (L:=fun i=>(lO (a i)).map (ex (fO (a i)))) (l:=S) (i:=i) S.length;rw [ae7]at hNx;cases iD:okL M with
 | false =>
  rw [iD]at hnx hNx hkn ae7
  have hB:bx o (fun i j=>mW (e i) (e j)) S.length=none:=by
   cases hB:bx o (fun i j=>mW (e i) (e j)) S.length with
   | none=>rfl
   | some b=>rw [hB]at ae7;cases ae7
  rw [hB]at hNx;exact yU (bt:=[]) ⟨hP,aaD hl hb hA,hTA,atQ,hBe,fun q hq=>iA _ _ _ _ _ q hq,fun q hq=>iA _ _ _ _ _ q hq,hSo,aA,hS',hCe,ano,pH,w5 hA.least,DZ hA,zF,z9,hNx,hnx,aax hkn⟩ (fun _=>⟨rfl,rfl⟩) (fun h=>by cases h)
 | true =>
  rw [iD]at hnx hNx hkn ae7;have AX:=anw (L:=M) (fun w hw how=>(WM.1.kno w hw how).1) iD;obtain⟨b,hB⟩:∃b,bx o (fun i j=>mW (e i) (e j)) S.length=some b:=Option.isSome_iff_exists.1 ae7;obtain⟨b1,b2,b3⟩:=hbs hB;rw [hB]at hNx
  have hz:mW (e b) (V8 M)=0:=atU (eN b b2) AX.1 (by
   have:=AX.2 _ (qB b aA) (by rw [(Mo b aA).1];exact b2);rwa [(Mo b aA).2]at this) (by
   obtain⟨w,hw,how,hf⟩:=rX.1 (acJ iD);obtain⟨i,hi,rfl⟩:=List.getElem_of_mem hw;rw [<-bZ hi]at how hf;rw [(Mo i aA).1]at how;rw [(Mo i aA).2]at hf;rw [<-hf];exact b3 i aA how)
  have hzz:∀i,mW (e i) (e b)=mW (e i) (V8 M):=fun i=>aAm (eN b b2) AX.1 hz;have hxv:qa (fO (a b)) (aO (fO (a b))) (nth ((lO (a b)).map (ex (fO (a b)))) (kx (a b) A))=qa (jY (e b)).1 (aO (jY (e b)).1) (ex (jY (e b)).1 (jY (e b)).2):=PV.ag.inj (vq b b2).2;have hbc:∀i,i<m->((nth M i).o&&decide (mW (nth M i).f (V8 M)=0))=(o i&&decide (mW (e i) (e b)=0)):=fun i hi=>by rw [(Mo i hi).1,(Mo i hi).2,hzz]
  have hBa:=aay (c:=fun w=>mW w.f (V8 M)) aA hkn (fun w hw how=>(WM.1.kno w hw how).1.cmp AX.1) (fun w hw how _=>(WM.1.kno w hw how).1.least)
  refine yU ⟨hP,aaD hl hb hA,hTA,atQ,hBe,fun q hq=>iA _ _ _ _ _ q hq,fun q hq=>iA _ _ _ _ _ q hq,hSo,aA,hS',hCe,ano,pH,w5 hA.least,DZ hA,zF,z9,hNx,hnx,hBa⟩ (fun h=>by cases h) (fun _ =>
   ⟨fO (a b),aO (fO (a b)),nth ((lO (a b)).map (ex (fO (a b)))) (kx (a b) A),o,fun i=>fO (a i),fun i=>aO (fO (a i)),fun i=>nth ((lO (a i)).map (ex (fO (a i)))) (kx (a i) A),fun i=>mW (e i) (e b),fun i=>(yT (fun w=>mW w.f (V8 M)) (M.take i)).length,rfl,?_⟩)
  refine⟨?_,fun i hi=>?_,fun i hi=>?_,fun i hi MT=>?_,by simp [yT],fun i hi hn=>?_,fun i hi MT hzi=>?_,?_,?_⟩
  ·rw [hxv];exact WD AX.1 (eN b b2) (by have:=GP (eN b b2) AX.1;have:=GP AX.1 (eN b b2);omega)
  ·rw [(LR i).2.1,Si i aA];rfl
  ·have:=(aok i).aAn hA;rw [<-ho' i]at this;rw [(LR i).2.2,Si i aA];rw [ha]at this |-;exact this
  ·show aC _ [QA _ _ _,QA _ _ _] _;rw [(vq i MT).2,(vq b b2).2];exact D0 (eN i MT) (eN b b2)
  ·have jF:i<M.length:=(by omega);show(yT _ (M.take (i+1))).length=_;rw [JZ jF,hbc i aA,if_neg (by simpa using hn),List.append_nil]
  ·have jF:i<M.length:=(by omega);have uK:((nth M i).o&&decide (mW (nth M i).f (V8 M)=0))=true:=(by rw [hbc i aA,MT,decide_eq_true hzi];rfl);obtain⟨c1,c2⟩:=anu (c:=fun w=>mW w.f (V8 M)) jF uK
   refine⟨?_,c1,?_,?_⟩
   ·show(yT _ (M.take (i+1))).length=_;rw [JZ jF,if_pos uK,List.length_append];rfl
   ·show(nth (yT _ M) _).t=_;rw [c2,(LR i).1,Si i aA,Mi i aA];rfl
   ·show aC _ [.sl [b9 (nth (yT _ M) _).f],_] _;rw [c2,(Mo i aA).2,hxv];exact WD (eN i MT) (eN b b2) hzi
  ·show(yT _ (M.take _)).length=_;rw [List.take_of_length_le aA]
  ·have:=acC (fun w=>mW w.f (V8 M)) M;omega
end Go.Proofs.YtiobceocpabjdaaGreat
set_option linter.unusedSimpArgs false
set_option linter.unusedVariables false
namespace Go.Proofs.YtiobceocpabjdaaGreat.kinNexts
open Go Pm Go.ChangeShapes Go.WideShapes Go.ChangeAt Go.RowKit
abbrev IS(l:List Int):Prop:=(∀x∈l, -9223372036854775808<=x∧x<9223372036854775808)∧l.length<9223372036854775808
theorem acN:MC Tryz.prog 3 (fun ps=>∃n:Int,ps=aI n ∧ -9223372036854775808<=n∧n<9223372036854775808):=
  (MC.int .i64 (by kernel_rfl)).mono fun ps ⟨n,h1,h2,h3⟩=>⟨n,h1,by simpa [IntKind.min,IntKind.signed,IntKind.bits]using h2,by simp [IntKind.max,IntKind.signed,IntKind.bits]at h3;omega⟩
theorem aj3:vV Tryz.prog 22 (fun q=>∃l:List Int,q=aJ aI l∧IS l):=
  (vV.slice (e:=3) (by kernel_rfl) (by rw [show Tryz.prog.cellsOf 3=1 by kernel_rfl];decide) acN).mono fun q ⟨l,h1,h2,h3⟩=>by obtain⟨m,rfl,hm⟩:=maps (g:=aI) (Q:=fun n => -9223372036854775808<=n∧n<9223372036854775808) (fun ps h=>h) h2;exact⟨m,h1,hm,by rw [List.length_map]at h3;simp only [maxLen]at h3;omega⟩
theorem aj4:MC Tryz.prog 22 (fun ps=>∃l:List Int,ps=lcs l∧IS l):=
  (MC.slice (e:=3) (by kernel_rfl) (by rw [show Tryz.prog.cellsOf 3=1 by kernel_rfl];decide) acN).mono fun ps ⟨l,h1,h2,h3⟩=>by obtain⟨m,rfl,hm⟩:=maps (g:=aI) (Q:=fun n => -9223372036854775808<=n∧n<9223372036854775808) (fun ps h=>h) h2;exact⟨m,h1,hm,by rw [List.length_map]at h3;simp only [maxLen]at h3;omega⟩
theorem ae8:vV Tryz.prog 102 (fun q=>∃l:List (List Int),q=aJ lcs l∧(∀m∈l,IS m)∧l.length<9223372036854775808):=
  (vV.slice (e:=22) (by kernel_rfl) (by rw [show Tryz.prog.cellsOf 22=1 by kernel_rfl];decide) aj4).mono fun q ⟨l,h1,h2,h3⟩=>by obtain⟨m,rfl,hm⟩:=maps (g:=lcs) (Q:=fun m=>IS m) (fun ps h=>h) h2;exact⟨m,h1,hm,by rw [List.length_map]at h3;simp only [maxLen]at h3;omega⟩
set_option maxRecDepth 100000 in
theorem lifted(os:Os)(started:os.Started)(H:Type)(enc:TypeId × Value->H) :
    ReturnsInHanded {} Tryz.checked os 7 .any (Rows.kinNextsSpec.pre6 enc Tryz.prog Tryz.f7 Rows.kinNextsRow.domain false) (Rows.kinNextsSpec.post enc Tryz.prog Tryz.f7 false true false false):=by
  refine ahb (C:=Tryz.checked) (Qs:=[fun q=>∃l:List (List Int),q=aJ lcs l∧(∀m∈l,IS m)∧l.length<9223372036854775808,fun q=>∃l:List Int,q=aJ aI l∧IS l,fun q=>∃n:Int,q = .int .i64 n ∧ -9223372036854775808<=n∧n<9223372036854775808]) (tb:=4) own laidOut started (by kernel_rfl) Tryz.func7
    (ChangeSpec.witness6 (enc:=enc) (C:=Tryz.checked) false ⟨#[], #[.slice none 0 0, .slice none 0 0, .int .i64 0],[]⟩ 16 (by kernel_rfl) (by kernel_rfl) (by kernel_rfl) (by kernel_rfl)) rfl ?_ (by kernel_rfl) (by kernel_rfl) ?_ ?_
  · intro ds h;rw [show Tryz.f7.params.size=3 by kernel_rfl]at h
    match ds,h with
    | [_,_,_],_=>rfl
  · rw [show Tryz.f7.params.toList = [102,22,3]by kernel_rfl];exact⟨ae8,by kernel_rfl,of_decide_eq_true (by kernel_rfl),aj3,by kernel_rfl,of_decide_eq_true (by kernel_rfl),alV,by kernel_rfl,of_decide_eq_true (by kernel_rfl),trivial⟩
  · rintro ps h;obtain⟨_,_,rfl,⟨a0,rfl,h0,g0⟩,⟨_,_,rfl,⟨a1,rfl,h1,g1⟩,⟨_,_,rfl,⟨a2,rfl,h2⟩,rfl⟩⟩⟩:=h;exact RM a0 a1 a2 h0 g0 h1 g1 h2
theorem z1:(Rows.kinNextsRow.inPlace==Tryz.pinned.checked.prog.inPlace 7)=true:=by kernel_rfl
theorem z2:(Rows.kinNextsRow.unfollowed==Tryz.pinned.checked.prog.unfollowed 7)=true:=by kernel_rfl
theorem z3:(Rows.kinNextsRow.recurses==Tryz.pinned.checked.prog.recurses 7)=true:=by kernel_rfl
theorem z4:(Rows.kinNextsRow.named==Tryz.pinned.checked.prog.varsNamed 7)=true:=by kernel_rfl
theorem closed:joinedFacts Tryz.pinned.checked.prog 7 Tryz.f7 Rows.kinNextsSpec Rows.kinNextsRow=true:=by
  unfold joinedFacts;rw [z1,z2,z3,z4]
  kernel_rfl
theorem proved:Rows.KinNextsSaid:=
  OpenClaim.holds_of_wide 7 Tryz.f7 rfl rfl rfl rfl rfl rfl rfl ⟨rfl,rfl,rfl,rfl,rfl⟩ rfl rfl rfl rfl rfl (by kernel_rfl) Tryz.func7 closed
    (of_decide_eq_true (by kernel_rfl)) (by unfold Func.isWrapper;first | (rw [if_pos (by decide +kernel)];kernel_rfl) | (rw [if_neg (by decide +kernel)];exact⟨rfl,rfl⟩))
    (fun os started H enc _=>lifted os started H enc)
#print axioms proved
end Go.Proofs.YtiobceocpabjdaaGreat.kinNexts
