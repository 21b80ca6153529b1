/- For every input the law KinGoes of chapter 17 returns true, and each argument reads afterwards as it read before. No conditions. -/
import Derived.Test.YtiobceocpabjdaaGreatRows
import Derived.Test.YtiobceocpabjdaaGreatGam
import Derived.Test.YtiobceocpabjdaaGreatGan
set_option linter.unusedSimpArgs false
set_option linter.unusedVariables false
namespace Go.Proofs.YtiobceocpabjdaaGreat
open Go Pm List
open ZX hiding N W
noncomputable def qn(A:A9):QN:=⟨(jI A).1.l,aH (jI A).1,(ex (jI A).1 (jI A).2).1.num,(ex (jI A).1 (jI A).2).1.den,(ex (jI A).1 (jI A).2).2.num,(ex (jI A).1 (jI A).2).2.den⟩
theorem Jk{A:A9}(hA:NA A){t:Rat}(q:SQ 5 t):aj 19 [dV A,R2 t.num t.den] (ae (ZX.cr (cA A) t)):=by obtain⟨⟨a0,a⟩,_⟩:=et hA;have:=a.I.om a.A a.q1 a.q2 (q.mono (show 5<=U18 by decide)) ar;rw [bW,Wr (mc a0.A).2]at this;exact this
theorem aov{t:Rat}(q:SQ 5 t)(sb:t.num.natAbs<=30∧((t.den:Int)).natAbs<=6):dV (Jf t)=AP (du t).l (aH (du t)) t.num t.den:=by rw [dV,Jf,Mj (OY q sb),adQ];rfl
def eIt(g:A9->A9)(a:A9):Nat->A9
 | 0=>a
 | n+1=>g (eIt g a n)
theorem Xp{A:A9}(hA:NA A){t:Rat}(q:SQ 5 t)(sb:t.num.natAbs<=30∧((t.den:Int)).natAbs<=6)(h:0<gZ A (Jf t)):0<ZX.cr (cA A) t:=by
 obtain⟨s,h1,h2⟩:=(uG hA (W9 q sb)).1 h;have hs:t<=s:=by rw [Jf,si (OY q sb)]at h1;exact(gW rfl _).1 h1
 have h3:¬cA A t:=fun h3=>h2 (hA.up _ _ h3 hs);rw [mT.2 h3];decide
theorem Jl(ps:List (List Int))(n d m k:Int)(hb:∀l∈ps,(∀x∈l, -9223372036854775808<=x∧x<9223372036854775808)∧l.length<9223372036854775808)(hl:ps.length<9223372036854775808)(hn : -9223372036854775808<=n∧n<9223372036854775808)(hd : -9223372036854775808<=d∧d<9223372036854775808)(hm : -9223372036854775808<=m∧m<9223372036854775808)(hk : -9223372036854775808<=k∧k<9223372036854775808) :
  aj 8 [aw lcs ps,ae n,ae d,ae m,ae k] (.bool true):=by
 have s1:=DX n d hn hd;have s2:=DX m k hm hk;have gl:Gd (VR n d):=⟨V1 _ _,LC _ _⟩
 have gh:Gd (VR m k):=⟨V1 _ _,LC _ _⟩
 generalize VR n d=lo,VR m k=hi at *;rw [bW]at s1 s2;have pP:=W9 gl.1 gl.2;have CU:=W9 gh.1 gh.2;have D:=at4 hl hb pP;have hv:=aov gl.1 gl.2;have hTA:aj 29 [dV (Jf lo)] (.ag (b9 (Jf lo))):=by rw [hv];exact adK gl.1 gl.2
 have hra:aj 41 [R2 lo.num lo.den] (dV (Jf lo)):=by rw [hv];exact OU gl.2
 have eB:=fun t=>adR gl.1 gl.2 t;have KB:∀ {A:A9},NA A->0<gZ A (Jf lo)->0<ZX.cr (cA A) lo:=fun hA h=>Xp hA gl.1 gl.2 h;have ahJ:=gh.1.tor ar;rw [bW]at ahJ;have hcx:=at5 gh.1 gl.1 ar;generalize ajS:Jf lo=iQ at *;have Pb:=fun {A:A9} (hA:NA A)=>Xd (ps:=ps) hl hb hA;have hY:=Ga (b:=false) (n:=A9.no) (t:=iQ) (z:=true) (L:=[]) (e:=0) (later:=false) (C:=cC ps iQ) (S:=lh (cC ps iQ)) (G:=WE.new) (by have:=D.len _ D.lo;omega) (fun s hs=>(D.cer _ D.lo s hs).1) adS pP.least (fun _ _ _=>rfl) (fun h=>by cases h);have hBe:=Ec hY;obtain⟨k0,k1,k2⟩:=aa3 D hi;have hK5:=ahz (ps:=ps);have ec:∀j,j<kT D hi->pI (lL (fun A=>lh (cC ps A)) iQ j)=true:=fun j hj=>(k1 j hj).1
 by_cases hp:hi<lo
 ·-- back it aAt not go
  have QS:0<ZX.cr (cA iQ) hi:=by rw [eB,zN];exact hp
  have hz:CO hi lo<0:=OT.2 hp;have pY:=B4 pP pP;rw [show gZ iQ iQ=0 from FU _]at pY
  exact wC (y:=qn iQ) (t:=iQ) (K:=0) (q:=fun _=>qn iQ) (E:=fun _=>qn iQ) (l:=fun _=>[]) (S:=fun _=>[]) (S':=fun _=>[]) (ok:=false) (M:=[]) (M2:=[]) (w:=qn iQ) (tw:=iQ) (N:=[])
   ⟨s1,s2,hra,hTA,Pb pP,aa5,hBe,ahJ,hcx,Xo (S:=⟨true,iQ,false,(lh (cC ps iQ)).map WE.new,0⟩) QS (oR pP.least) (pP.cr gh.1),fun q hq=>fZ _ _ _ _ _ q hq,fun q hq=>fZ _ _ _ _ _ q hq⟩
   (fun _=>⟨rfl,rfl,rfl,uE,oR pP.least,sZ pP,pY⟩) (fun h=>absurd hz h)
 ·generalize hK:kT D hi=K at *;have QS:¬0<ZX.cr (cA iQ) hi:=by rw [eB,zN];exact hp
  have hz:¬CO hi lo<0:=fun h=>hp (OT.1 h);obtain⟨B,hB⟩:∃B:A9->List CE,B=fun A=>lh (cC ps A):=⟨_,rfl⟩
  rw [<-hB]at D ec k1 k2;obtain⟨A,hA⟩:∃A:Nat->A9,A=fun j=>(wB B iQ j).1:=⟨_,rfl⟩
  have Jo:∀j,A j=(wB B iQ j).1:=fun j=>by rw [hA]
  have S3:A 0=iQ:=by rw [Jo];rfl
  have Su:∀j,xF (lL B iQ j)=A (j+1):=fun j=>by rw [Jo];rfl
  have qA:=fun j (hj:j<=K)=>nS D j fun x hx=>ec x aa;have nA:∀j,j<=K->NA (A j):=fun j hj=>by rw [Jo];exact(qA j hj).1
  have nA1:∀j,j<=K->pI (lL B iQ j)=true->NA (A (j+1)):=fun j hj h=>by rw [<-Su];exact OZ D j (fun x hx=>ec x aa) h
  have hup:∀j,j<=K->pI (lL B iQ j)=true->0<gZ (A (j+1)) (A j):=fun j hj h=>by rw [<-Su,Jo];exact B2 D j (fun x hx=>ec x aa) h
  have hlk:∀j,j<=K->lL B iQ j=sW ps (A j):=fun j hj=>by rw [Ji D j fun x hx=>ec x aa,Jo,hB];simp only;rw [aba,at6];rfl
  obtain⟨F,hF⟩:∃F:A9->List RE × A9,∀A,NA A->(F A).1.length=(sR ps A).length∧aj 36 [aw dr (F A).1] (aw fx (sC ps A)) ∧
   wT env.P 50 (some (0,(sR ps A).length)) [dV A] 85 9 (emap dr (sR ps A)) (emap dr (F A).1) (.cW [if pI (sW ps A)=true then dV (F A).2 else .ag I3, .bool (pI (sW ps A))]) ∧
   (pI (sW ps A)=true->NA (F A).2∧gZ (F A).2 (xF (sW ps A))=0):=by
   classical
   refine⟨fun A=>if h:NA A then⟨Classical.choose (Mp ps h),Classical.choose (Classical.choose_spec (Mp ps h))⟩else([],A),fun A h=>?_⟩;simp only [dif_pos h];exact Classical.choose_spec (Classical.choose_spec (Mp ps h))
  obtain⟨e,he⟩:∃e:Nat->A9,e=eIt (fun A=>(F A).2) iQ:=⟨_,rfl⟩
  have he0:e 0=iQ:=by rw [he];rfl
  have hes:∀j,e (j+1)=(F (e j)).2:=fun j=>by rw [he];rfl
  have wY:∀j,j<=K->NA (e j)∧gZ (e j) (A j)=0:=fun j=>by
   induction j with
   | zero=>exact fun _=>⟨by rw [he0];exact pP,by rw [he0,S3];exact FU _⟩
   | succ j ih =>
    intro hj;obtain⟨i1,i2⟩:=ih aa;have e1:=O7 (ps:=ps) i1 (nA j aa) i2;have h4:=(hF _ i1).2.2.2;rw [e1,<-hlk j aa]at h4;have h5:=h4 (ec j aa);rw [Su]at h5;rw [hes];exact h5
  have hsW:∀j,j<=K->sW ps (e j)=lL B iQ j:=fun j hj=>by rw [hlk j hj];exact O7 (wY j hj).1 (nA j hj) (wY j hj).2
  have mN:pI (lL B iQ K)=true->NA (e (K+1))∧gZ (e (K+1)) (A (K+1))=0:=fun h=>by have h4:=(hF _ (wY K (Nat.le_refl _)).1).2.2.2;rw [hsW K (Nat.le_refl _)]at h4;have h5:=h4 h;rw [Su]at h5;rw [hes];exact h5
  have auh:∀j,gS env.P 37 [aw dr (rA ps (e j))] 85 9 (emap dr (sR ps (e j))):=fun j=>by have hSo:=QM (l:=rA ps (e j)) (by rw [rA,zP];omega);rw [aa9]at hSo;exact hSo
  have hSl:∀A,(sR ps A).length<1000:=fun A=>by unfold sR;rw [length_map,Mm];exact Nat.lt_of_le_of_lt (Nat.min_le_right _ _) ar
  have Sr:=fun j (hj:j<=K)=>(hF _ (wY j hj).1).2.2.1;have hNK:=Sr K (Nat.le_refl _);rw [hsW K (Nat.le_refl _)]at hNK;have eA:∀j,j<=K->cA (e j)=cA (A j):=fun j hj=>zU (wY j hj).1 (nA j hj) (wY j hj).2;have sC':sC ps (e K)=sC ps (A K):=abd (wY K (Nat.le_refl _)).1 (nA K (Nat.le_refl _)) (wY K (Nat.le_refl _)).2;have hTc:=(hF _ (wY K (Nat.le_refl _)).1).2.1;rw [sC']at hTc;have hSc:(lL B iQ K).map WE.c=sC ps (A K):=by rw [hlk K (Nat.le_refl _),sW,sC,map_map];exact map_congr_left fun j _=>rfl
  have auj:(sC ps (A K)).length<=5:=by unfold sC;rw [length_map,Mm];exact Nat.min_le_right _ _
  have hWl:(lL B iQ K).length<=5:=by rw [<-length_map (f:=WE.c),hSc];exact auj
  have aow:aj 35 [aw fx (sC ps (A K))] (aw fx (sC ps (A K))):=by
   have:=xg (l:=sC ps (A K)) aa fun x hx=>by obtain⟨i,_,rfl⟩:=mem_map.1 hx;have bz:=(yB (nth ps i)).lay.bz;have nN:=dW (x:=(mP ps i).l) (bz.pb ar ar);rw [(mP ps i).c]at nN;exact nN
   have e2:lh (sC ps (A K))=sC ps (A K):=abb ps (A K);rwa [e2]at this
  have hCe:=RU (b:=true) (n:=Jf hi) (z:=false) (L:=lL B iQ K) (M:=sC ps (A K)) (e:=(K:Int)) aa (fun h=>by cases h) (by rw [hSc];exact aow);have mV:=B3 (l:=sC ps (A K)) aa fun x hx=>by obtain⟨i,_,rfl⟩:=mem_map.1 hx;refine⟨rfl,?_⟩;have hB:=Gw (yB (nth ps i)).lay.bz;exact CP (Nat.lt_of_le_of_lt hB.len ar) fun c hc=>Nat.lt_of_le_of_lt (hB.sz c hc) ar
  have hcn:=Jk CU gh.1;rw [adR gh.1 gh.2,I8]at hcn
  have Zn:∀j,j<K->0<gZ (A (j+1)) iQ:=fun j=>by
   induction j with
   | zero=>intro hj;have:=hup 0 aa (ec 0 hj);rwa [S3]at this
   | succ j ih =>
    intro hj;exact Je pP (nA (j+1) aa) (nA (j+2) aa) (ih aa) (hup (j+1) aa (ec _ hj))
  have hgo:=abi (ps:=ps) (K:=K) (S:=fun j=>⟨true,A j,false,(wB B iQ j).2,(j:Nat)⟩) (U:=fun j=>⟨true,A j,false,lL B iQ j,(j:Nat)⟩) (a:=fun j=>A (j+1)) (C:=fun j=>cC ps (A (j+1))) (q:=fun j=>qn (A (j+1))) (l:=fun j=>rA ps (A (j+1))) (m:=iQ) (o:=Jf hi) (r:=A (K+1)) (ok:=pI (lL B iQ K)) (v:=ZX.cr (cA iQ) hi) QS aa
   (by have:=oR (z:=false) (L:=(wB B iQ 0).2) (e:=0) pP.least;simp only [CS.c,S3];exact this) (pP.cr gh.1)
   (fun j hj=>by have:=(O0 D j fun x hx=>ec x aa).nx;rw [ec j hj,<-Jo,Su]at this;exact this)
   (fun j hj=>⟨_,by have:=(k1 j hj).2;rwa [Su]at this,(nA (j+1) hj).cr gh.1⟩) (fun j hj=>(nA (j+1) hj).least) (fun j hj=>sZ (nA (j+1) hj)) (fun j hj=>Pb (nA (j+1) hj)) (fun j hj=>aa5)
   (fun j hj=>⟨(wB B iQ (j+1)).2,(j:Int),by have:=aht (k:=A j) D (nA (j+1) hj) ((qA j aa).2.1.look D.XT).1 (j:Int);show jq _ _ _ _ (co true (A j) false (lL B iQ j) (j:Int)) _ _;rw [BX];simp only;rw [Su];exact this,rfl,aa,aa⟩)
   (by have:=(O0 D K fun x hx=>ec x hx).nx;rw [<-Jo,Su]at this;exact this)
   (fun h=>⟨_,by have:=k2 h;rwa [Su]at this,(nA1 K (Nat.le_refl _) h).cr gh.1⟩) (ahj gh.1 ar) rfl
  refine wC (y:=qn iQ) (t:=iQ) (K:=K) (q:=fun j=>qn (A (j+1))) (E:=fun j=>qn (e j)) (l:=fun j=>rA ps (e j)) (S:=fun j=>sR ps (e j)) (S':=fun j=>(F (e j)).1) (ok:=pI (lL B iQ K)) (M:=sC ps (A K)) (M2:=sC ps (A K)) (w:=qn (Jf hi)) (tw:=Jf hi) (c0:=co true iQ false ((lh (cC ps iQ)).map WE.new) 0) (c1:=co true (Jf hi) false (lL B iQ K) (K:Nat)) (N:=tmq (fun j=>qn (A (j+1))) K)
   ⟨s1,s2,hra,hTA,Pb pP,aa5,hBe,ahJ,hcx,?_,fun q hq=>fZ _ _ _ _ _ q hq,fun q hq=>fZ _ _ _ _ _ q hq⟩
   (fun h=>absurd h hz) (fun _=>⟨rfl,rfl,rfl,?_⟩)
  ·have e1:(wB B iQ 0).2=(lh (cC ps iQ)).map WE.new:=(by rw [hB];rfl);have e2:(⟨true,A 0,false,(wB B iQ 0).2,((0:Nat):Int)⟩:CS).c=co true iQ false ((lh (cC ps iQ)).map WE.new) 0:=(by rw [S3,e1];rfl);rw [e2]at hgo;exact hgo
  ·exact⟨aa,by rw [he0],fun j hj=>Pb (wY j hj).1,fun j _=>auh j,fun j=>hSl _,(hF _ (wY K (Nat.le_refl _)).1).1,fun j hj=>by
        have:=Sr j aa;rw [hsW j aa,ec j hj,if_pos rfl,<-hes]at this
        exact this,by rw [<-hes]at hNK;exact hNK,fun j hj=>⟨_,by
          rw [eA (j+1) hj];have:=(k1 j hj).2;rwa [Su]at this,Jk (wY (j+1) hj).1 gh.1⟩,fun h=>⟨_,by
          have h5:=mN h;rw [zU h5.1 (nA1 K (Nat.le_refl _) h) h5.2];have:=k2 h;rwa [Su]at this,Jk (mN h).1 gh.1⟩,uE,oR CU.least,sZ CU,hcn,hCe,hTc,mV,
        fun j hj=>⟨_,by have:=(k1 j hj).2;rwa [Su]at this,Jk (nA (j+1) hj) gh.1⟩,fun j hj=>⟨_,KB (nA (j+1) hj) (Zn j hj),Jk (nA (j+1) hj) gl.1⟩,
        fun j hj=>⟨_,(zS (nA (j+1) aa) (nA (j+2) aa)).2 (hup (j+1) aa (ec _ hj)),B4 (nA (j+1) aa) (nA (j+2) aa)⟩⟩
end Go.Proofs.YtiobceocpabjdaaGreat
set_option linter.unusedSimpArgs false
set_option linter.unusedVariables false
namespace Go.Proofs.YtiobceocpabjdaaGreat.kinGoes
open Go Pm Go.ChangeShapes Go.WideShapes Go.ChangeAt Go.RowKit List
theorem abl:Dj Tryz.prog 3 (fun ps=>∃n:Int,ps=ay n ∧ -9223372036854775808<=n∧n<9223372036854775808):=
  (Dj.int .i64 (by kernel_rfl)).mono fun ps ⟨n,h1,h2,h3⟩=>⟨n,h1,by simpa [IntKind.min,IntKind.signed,IntKind.bits]using h2,by simp [IntKind.max,IntKind.signed,IntKind.bits]at h3;omega⟩
theorem Xq:Dj Tryz.prog 22 (fun ps=>∃l:List Int,ps=lcs l∧(∀x∈l, -9223372036854775808<=x∧x<9223372036854775808)∧l.length<9223372036854775808):=
  (Dj.slice (e:=3) (by kernel_rfl) (by rw [show Tryz.prog.cellsOf 3=1 by kernel_rfl];decide) abl).mono fun ps ⟨l,h1,h2,h3⟩=>by obtain⟨m,rfl,hm⟩:=maps (g:=ay) (Q:=fun n => -9223372036854775808<=n∧n<9223372036854775808) (fun ps h=>h) h2;exact⟨m,h1,hm,by rw [length_map]at h3;simp only [maxLen]at h3;omega⟩
theorem R6:tW Tryz.prog 102 (fun q=>∃l:List (List Int),q=aw lcs l∧(∀m∈l,(∀x∈m, -9223372036854775808<=x∧x<9223372036854775808)∧m.length<9223372036854775808)∧l.length<9223372036854775808):=
  (tW.slice (e:=22) (by kernel_rfl) (by rw [show Tryz.prog.cellsOf 22=1 by kernel_rfl];decide) Xq).mono fun q ⟨l,h1,h2,h3⟩=>by obtain⟨m,rfl,hm⟩:=maps (g:=lcs) (Q:=fun m=>(∀x∈m, -9223372036854775808<=x∧x<9223372036854775808)∧m.length<9223372036854775808) (fun ps h=>h) h2;exact⟨m,h1,hm,by rw [length_map]at h3;simp only [maxLen]at h3;omega⟩
set_option maxRecDepth 100000 in
theorem lifted(os:Os)(started:os.Started)(H:Type)(enc:TypeId × Value->H) :
    ReturnsInHanded {} Tryz.checked os 8 .any (Rows.kinGoesSpec.pre6 enc Tryz.prog Tryz.f8 Rows.kinGoesRow.domain false) (Rows.kinGoesSpec.post enc Tryz.prog Tryz.f8 false true false false):=by
  refine Uf (C:=Tryz.checked) (Qs:=[fun q=>∃l:List (List Int),q=aw lcs l∧(∀m∈l,(∀x∈m, -9223372036854775808<=x∧x<9223372036854775808)∧m.length<9223372036854775808)∧l.length<9223372036854775808,fun q=>∃n:Int,q = .int .i64 n ∧ -9223372036854775808<=n∧n<9223372036854775808,fun q=>∃n:Int,q = .int .i64 n ∧ -9223372036854775808<=n∧n<9223372036854775808,fun q=>∃n:Int,q = .int .i64 n ∧ -9223372036854775808<=n∧n<9223372036854775808,fun q=>∃n:Int,q = .int .i64 n ∧ -9223372036854775808<=n∧n<9223372036854775808]) (tb:=4) own laidOut started (by kernel_rfl) Tryz.func8
    (ChangeSpec.witness6 (enc:=enc) (C:=Tryz.checked) false ⟨#[], #[.slice none 0 0, .int .i64 0, .int .i64 0, .int .i64 0, .int .i64 0],[]⟩ 16 (by kernel_rfl) (by kernel_rfl) (by kernel_rfl) (by kernel_rfl)) rfl ?_ (by kernel_rfl) (by kernel_rfl) ?_ ?_
  · intro ds h;rw [show Tryz.f8.params.size=5 by kernel_rfl]at h
    match ds,h with
    | [_,_,_,_,_],_=>rfl
  · rw [show Tryz.f8.params.toList = [102,3,3,3,3]by kernel_rfl];exact⟨R6,by kernel_rfl,of_decide_eq_true (by kernel_rfl),y8,by kernel_rfl,of_decide_eq_true (by kernel_rfl),y8,by kernel_rfl,of_decide_eq_true (by kernel_rfl),y8,by kernel_rfl,of_decide_eq_true (by kernel_rfl),y8,by kernel_rfl,of_decide_eq_true (by kernel_rfl),trivial⟩
  · rintro ps h;obtain⟨_,_,rfl,⟨a0,rfl,h0,g0⟩,⟨_,_,rfl,⟨a1,rfl,h1⟩,⟨_,_,rfl,⟨a2,rfl,h2⟩,⟨_,_,rfl,⟨a3,rfl,h3⟩,⟨_,_,rfl,⟨a4,rfl,h4⟩,rfl⟩⟩⟩⟩⟩:=h;exact Jl a0 a1 a2 a3 a4 h0 g0 h1 h2 h3 h4
theorem z1:(Rows.kinGoesRow.inPlace==Tryz.pinned.checked.prog.inPlace 8)=true:=by kernel_rfl
theorem z2:(Rows.kinGoesRow.unfollowed==Tryz.pinned.checked.prog.unfollowed 8)=true:=by kernel_rfl
theorem z3:(Rows.kinGoesRow.recurses==Tryz.pinned.checked.prog.recurses 8)=true:=by kernel_rfl
theorem z4:(Rows.kinGoesRow.named==Tryz.pinned.checked.prog.varsNamed 8)=true:=by kernel_rfl
theorem closed:joinedFacts Tryz.pinned.checked.prog 8 Tryz.f8 Rows.kinGoesSpec Rows.kinGoesRow=true:=by
  unfold joinedFacts;rw [z1,z2,z3,z4]
  kernel_rfl
theorem proved:Rows.KinGoesSaid:=
  OpenClaim.holds_of_wide 8 Tryz.f8 rfl rfl rfl rfl rfl rfl rfl ⟨rfl,rfl,rfl,rfl,rfl⟩ rfl rfl rfl rfl rfl (by kernel_rfl) Tryz.func8 closed
    (of_decide_eq_true (by kernel_rfl)) (by unfold Func.isWrapper;first | (rw [if_pos (by decide +kernel)];kernel_rfl) | (rw [if_neg (by decide +kernel)];exact⟨rfl,rfl⟩))
    (fun os started H enc _=>lifted os started H enc)
#print axioms proved
end Go.Proofs.YtiobceocpabjdaaGreat.kinGoes
