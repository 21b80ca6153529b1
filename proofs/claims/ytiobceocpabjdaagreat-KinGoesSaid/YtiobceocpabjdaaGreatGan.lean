import Derived.Test.YtiobceocpabjdaaGreatGam
set_option linter.unusedSimpArgs false
set_option linter.unusedVariables false
namespace Go.Proofs.YtiobceocpabjdaaGreat
open Go Pm List
structure KG(ps:List (List Int))(n d m k:Int)(lo hi:Rat)(y:QN)(t:A9)(l0:List RE)(m0:List CE)(c0 c1:List PV)(z x1 e1:Int)(N:List QN):Prop where
 s1:aj 25 [ae n,ae d] (R2 lo.num lo.den)
 s2:aj 25 [ae m,ae k] (R2 hi.num hi.den)
 rat:aj 41 [R2 lo.num lo.den] (.ag y.v)
 toA:aj 29 [.ag y.v] (.ag (b9 t))
 crt:aj 46 [aw lcs ps, .ag y.v] (aw dr l0)
 Xa:aj 36 [aw dr l0] (aw fx m0)
 be:jq 42 [.ag (b9 t),aw fx m0] 95 12 (co false A9.no true [] 0) c0 (.cW [])
 tor:aj 23 [R2 hi.num hi.den] (T2 hi.num hi.den)
 cmp:aj 14 [R2 hi.num hi.den,R2 lo.num lo.den] (ae z)
 go:GoC ps [.bool (decide (hi.num<0)),us (aI LL hi.num.natAbs), .bool (decide ((hi.den:Int)<0)),us (aI LL (hi.den:Int).natAbs)] c0 c1 x1 e1 (emap QN.v N)
 p0:∀q∈c0,aF q=true
 p1:∀q∈c1,aF q=true
structure KP(y:QN)(t:A9)(c1:List PV):Prop where
 ev:jq 44 [] 95 12 c1 c1 (ae 0)
 now:jq 49 [] 95 12 c1 c1 (.ag (b9 t))
 fa:aj 20 [.ag (b9 t)] (.ag y.v)
 cm:aj 48 [.ag y.v, .ag y.v] (ae 0)
structure KF(ps:List (List Int))(lo hi:Rat)(y w:QN)(t:A9)(c1:List PV)(K:Nat)(q E:Nat->QN)(l S S':Nat->List RE)(ok:Bool)(M M2:List CE):Prop where
 kb:K<1000000
 e0:E 0=y
 crt:∀j,j<=K->aj 46 [aw lcs ps, .ag (E j).v] (aw dr (l j))
 xY:∀j,j<=K->gS env.P 37 [aw dr (l j)] 85 9 (emap dr (S j))
 len:∀j,(S j).length<1000
 aey:(S' K).length=(S K).length
 nx:∀j,j<K->wT env.P 50 (some (0,(S j).length)) [.ag (E j).v] 85 9 (emap dr (S j)) (emap dr (S' j)) (.cW [.ag (E (j+1)).v, .bool true])
 nxK:wT env.P 50 (some (0,(S K).length)) [.ag (E K).v] 85 9 (emap dr (S K)) (emap dr (S' K)) (.cW [if ok=true then .ag (E (K+1)).v else .ag I3, .bool ok])
 cj:∀j,j<K -> ∃z:Int,¬0<z∧aj 19 [.ag (E (j+1)).v,R2 hi.num hi.den] (ae z)
 cK:ok=true -> ∃z:Int,0<z∧aj 19 [.ag (E (K+1)).v,R2 hi.num hi.den] (ae z)
 ev:jq 44 [] 95 12 c1 c1 (ae K)
 now:jq 49 [] 95 12 c1 c1 (.ag (b9 t))
 fa:aj 20 [.ag (b9 t)] (.ag w.v)
 cn:aj 19 [.ag w.v,R2 hi.num hi.den] (ae 0)
 ce:jq 47 [] 95 12 c1 c1 (aw fx M)
 tc:aj 36 [aw dr (S' K)] (aw fx M2)
 sm:aj 34 [aw fx M,aw fx M2] (.bool true)
 t1:∀i,i<K -> ∃z:Int,¬0<z∧aj 19 [.ag (q i).v,R2 hi.num hi.den] (ae z)
 t2:∀i,i<K -> ∃z:Int,0<z∧aj 19 [.ag (q i).v,R2 lo.num lo.den] (ae z)
 t3:∀i,i+1<K -> ∃z:Int,z<0∧aj 48 [.ag (q i).v, .ag (q (i+1)).v] (ae z)
theorem TT.zero{NM c idT verT:Nat}{N:List (List PV)}{rows:Pm.Rows}(h:TT NM c idT verT N rows):TT NM 0 idT verT N rows:=by
 rcases h with h | ⟨h,v,_,h2⟩
 ·exact .inl h
 ·exact .inr ⟨h,v,Nat.zero_le _,h2⟩
abbrev K6(ps:List (List Int))(lo hi:Rat)(y:QN)(c1:List PV)(N:List QN)(v5 v11 Mu v13 XU Mv:Nat)(rows:Pm.Rows):Prop:=
 rows 5=some ⟨v5,102,1,[[aw lcs ps]]⟩∧rows 11=some ⟨v11,31,4,uM lo⟩∧rows 12=some ⟨Mu,31,4,uM hi⟩∧rows 13=some ⟨v13,49,10,[y.v]⟩∧rows 14=some ⟨XU,95,12,[c1]⟩∧TT 43 0 15 Mv (emap QN.v N) rows
set_option maxHeartbeats 8000000 in
theorem wC{ps:List (List Int)}{n d m k:Int}{lo hi:Rat}{y w:QN}{t tw:A9}{l0:List RE}{m0:List CE}{c0 c1:List PV}{z x1 e1:Int}{N:List QN}(F:KG ps n d m k lo hi y t l0 m0 c0 c1 z x1 e1 N)
  (f0:z<0->x1=0∧e1=8∧N = []∧KP y t c1)
  {K:Nat} {q E:Nat->QN} {l S S':Nat->List RE} {ok:Bool} {M M2:List CE} (f1:¬z<0->x1=K∧e1=0∧N=tmq q K∧KF ps lo hi y w tw c1 K q E l S S' ok M M2) :
  aj 8 [aw lcs ps,ae n,ae d,ae m,ae k] (.bool true):=by
 have hw:=I9;obtain⟨ni,Gu,hra,hTA,QS,O8,hBe,hto,Pe,hgo,p0,p1⟩:=F;have pz:=fZ false A9.no true [] 0;simp only [db,A9.no,QN.sj]at ni Gu hra hTA QS hBe pz;apply bL [(0,aw lcs ps),(1,ae n),(2,ae d),(3,ae m),(4,ae k)] Tryz.func8;apply aR [1,2,3,4,5];apply kh ni Gu;apply bM [5,11,12];apply gT hra [5,11,12,13];apply gr [5,11,12,13,14];apply eO hTA QS;apply my O8;refine lC hBe rfl rfl pz p0 (by simp [Ed,A9.no]) ?_;apply bM [5,11,12,13,14];apply aR [5,11,12,13,14,15]
 refine W.dx (fun σ=>∃(v5 v11 Mu v13 XU Mv:Nat),aQ σ [(5, .ptr 5 v5 0 0),(11, .ptr 11 v11 0 0),(12, .ptr 12 Mu 0 0),(13, .ptr 13 v13 0 0),(14, .ptr 14 XU 0 0),(15, .ptr 15 Mv 0 0),(16,ae x1),(17,ae e1)] fun rows clk=>K6 ps lo hi y c1 N v5 v11 Mu v13 XU Mv rows) (fun K hK=>?_) ?_
 ·apply my hto;refine Xn hgo (fun p hp=>all_eq_true.1 (by rfl) p hp) p0 p1 (fun l hl=>by obtain⟨j,_,rfl⟩:=mem_map.1 hl;exact j.cB) av av av ar ar ar 43 ar ar ar ?_;intro rows' bV hC' Cf hk;have k5:rows' 5=some ⟨0,102,1,[[aw lcs ps]]⟩:=hk.get av (by simp [aF,aw]) ar;have jJ:rows' 11=some ⟨1,31,4,uM lo⟩:=hk.get (by simp [uM]) (by simp [uM,aF,aw]) ar;have jN:rows' 12=some ⟨2,31,4,uM hi⟩:=hk.get (by simp [uM]) (by simp [uM,aF,aw]) ar;have R5:rows' 13=some ⟨3,49,10,[y.v]⟩:=hk.get av (fun l hl=>by rw [mem_singleton.1 hl];exact y.cB) ar;clear hk;apply (cp);exact hK _ _ (ak _ [5,11,12,13,14,15,16,17]) ⟨_,_,_,_,_,_,_,_,rfl,k5,jJ,jN,R5,hC',Cf.zero⟩
 rintro _ ⟨v5,v11,Mu,v13,XU,Mv,rows,clk,rfl,k5,jJ,jN,R5,kj,kT⟩;rw [uM]at jJ jN;apply W.seq;apply lG jJ jN Pe
 apply kt [5,11,12,13,14,15,16,17,49]<;>intro h
 ·have hz:z<0:=au h;obtain⟨rfl,rfl,rfl,hEv,hNo,hFA,hC0⟩:=f0 hz;rcases kT with ⟨_,kT,_⟩ | ⟨hN,_⟩
  case inr=>exact absurd rfl hN
  simp only [db,QN.sj]at hNo hFA hC0 R5;apply W.sd;apply (cp);refine lC hEv rfl rfl p1 p1 (by simp [kj]) ?_;apply T5 kT R5 kj;refine lC hNo rfl rfl p1 p1 (by first | simp [kj] | rfl) ?_;apply T5 kT R5 kj;apply cT hFA;apply qk kT R5 kj
  try (refine aM (by decide +kernel) ?_)
  try simp (disch:=omega) [gw,kT,R5,kj]
  (repeat (first | rw [if_pos (by decide +kernel)] | rw [if_neg (by decide +kernel)]))
  try simp (disch:=omega) [gw,kT,R5,kj]
  apply cT hC0;apply T5 kT R5 kj;apply cT hw;apply T5 kT R5 kj;unfold go;exact qi [10]
 ·have hz:¬z<0:=au h;obtain⟨rfl,rfl,rfl,F⟩:=f1 hz;obtain⟨hkb,rfl,hce,hsr,hln,aud,Sr,hnK,hcj,hcK,hEv,hNo,hFA,hcn,hCe,hTc,hSm,ht1,X8,ht3⟩:=F;have Ue:∀S:List RE,∀e∈emap dr S,∀p∈e,aF p=true:=fun S e he p hp=>by obtain⟨y,_,rfl⟩:=mem_map.1 he;exact all_eq_true.1 (vJ y) p hp
  clear f0 f1 hgo hBe pz p0 O8 QS hTA hra ni Gu Pe hto;apply W.skip;have r0:=hce 0 (Nat.zero_le _);have s0:=hsr 0 (Nat.zero_le _);simp only [QN.sj]at r0 R5;apply W.sd;apply iS R5 k5 r0;apply (cp);refine xU s0 rfl (by trivial) ?_;apply (cp)
  try (refine aM (by decide +kernel) ?_)
  try simp (disch:=omega) [gw]
  (repeat (first | rw [if_pos (by decide +kernel)] | rw [if_neg (by decide +kernel)]))
  try simp (disch:=omega) [gw]
  unfold go;apply c9 [5,11,12,14,15,16,17,18,19,20];apply (iR)
  refine W.aO (fun kk σ=>∃(j w VY vw:Nat),aQ σ [(5, .ptr 5 v5 0 0),(11, .ptr 11 v11 0 0),(12, .ptr 12 Mu 0 0),(14, .ptr 14 XU 0 0),(15, .ptr 15 Mv 0 0),(16,ae K),(17,ae 0),(18, .ptr 18 VY 0 0),(19, .own w vw 0 (S j).length),(20,ae j)] fun rows clk=>j+kk=K∧(w=79∨w=98)∧rows 5=some ⟨v5,102,1,[[aw lcs ps]]⟩∧rows 11=some ⟨v11,31,4,uM lo⟩∧rows 12=some ⟨Mu,31,4,uM hi⟩∧rows 14=some ⟨XU,95,12,[c1]⟩∧TT 43 0 15 Mv (R4 q K) rows∧rows 18=some ⟨VY,49,10,[(E j).v]⟩∧rows w=some ⟨vw,85,9,emap dr (S j)⟩) K ?_ ?_
  ·exact⟨_,ak _ [5,11,12,14,15,16,17,18,19,20],0,79,_,_,_,_,rfl,aa, .inl rfl,by simp [k5],by simp [jJ,uM],by simp [jN,uM],by simp [kj],kT.B6 av av,av,av⟩
  clear k5 jJ jN R5 kj kT r0 s0 rows clk;rintro kk _ ⟨j,w',VY,vw,rows,clk,rfl,Ta,hww,k5,jJ,jN,kj,kT,k18,kw⟩;rw [uM]at jJ jN;have gP:∀i,i<79->¬i=w':=fun i hi=>by omega
  have iN:∀i,i<79->¬w'=i:=fun i hi=>by omega
  simp only [QN.sj]at k18;apply W.block
  by_cases hj:j<K
  ·have nx:=Sr j hj;obtain⟨zc,Em,cj⟩:=hcj j hj;have r1:=hce (j+1) hj;have s1:=hsr (j+1) hj;simp only [QN.sj]at nx cj r1;apply W.sr;apply dB k18;refine Kt nx rfl rfl (Ue (S j)) (Ue (S' j)) (by simp [kw]) ?_;apply fN gP iN;unfold go;apply c9 [5,11,12,14,15,16,17,18,19,20,21,22];apply W.seq;apply W.sr;apply ra jN gP iN cj
   apply s8 Em [5,11,12,14,15,16,17,18,19,20,21,93]<;>intro h
   ·simp at h
   apply W.skip;apply W.sd;apply ra k5 gP iN r1;apply (cp);refine xU s1 rfl (by trivial) ?_;apply T5 gP iN k18;unfold go;apply c9 [5,11,12,14,15,16,17,18,19,20];refine bB fun K hK=>?_;refine hK _ ⟨kk-1,_,ak _ [5,11,12,14,15,16,17,18,19,20],aa,j+1,98,_,_,_,_,rfl,aa, .inr rfl,by simp [k5,gP,iN],by simp [jJ,gP,iN,uM],by simp [jN,gP,iN,uM],by simp [kj,gP,iN],kT.B6 (by simp [gP,iN]) (by simp [gP,iN]),by simp [gP,iN],by simp [gP,iN]⟩
  ·obtain rfl:j=K:=by omega
   refine W.dx (fun σ=>∃(v21:Nat),aQ σ [(5, .ptr 5 v5 0 0),(11, .ptr 11 v11 0 0),(12, .ptr 12 Mu 0 0),(14, .ptr 14 XU 0 0),(15, .ptr 15 Mv 0 0),(16,ae j),(17,ae 0),(18, .ptr 18 VY 0 0),(19, .own w' vw 0 (S j).length),(20,ae j),(21, .ptr 21 v21 0 0),(22, .bool ok)] fun rows clk=>rows 5=some ⟨v5,102,1,[[aw lcs ps]]⟩∧rows 11=some ⟨v11,31,4,uM lo⟩∧rows 12=some ⟨Mu,31,4,uM hi⟩∧rows 14=some ⟨XU,95,12,[c1]⟩∧TT 43 0 15 Mv (R4 q j) rows∧rows w'=some ⟨vw,85,9,emap dr (S' j)⟩∧(ok=true->rows 21=some ⟨v21,49,10,[(E (j+1)).v]⟩)) (fun K hK=>?_) ?_
   ·cases ok with
    | false =>
     simp only [Bool.false_eq_true,if_false,QN.sj]at hnK;apply dB k18;refine Kt hnK rfl rfl (Ue (S j)) (Ue (S' j)) (by simp [kw]) ?_;apply fN gP iN;exact hK _ _ (ak _ [5,11,12,14,15,16,17,18,19,20,21,22]) ⟨_,_,_,rfl,by simp [k5,gP,iN],by simp [jJ,gP,iN,uM],by simp [jN,gP,iN,uM],by simp [kj,gP,iN],kT.B6 (by simp [gP,iN]) (by simp [gP,iN]),by simp [gP,iN,kw],fun h=>by cases h⟩
    | true =>
     simp only [if_true,QN.sj]at hnK;apply dB k18;refine Kt hnK rfl rfl (Ue (S j)) (Ue (S' j)) (by simp [kw]) ?_;apply fN gP iN;exact hK _ _ (ak _ [5,11,12,14,15,16,17,18,19,20,21,22]) ⟨_,_,_,rfl,by simp [k5,gP,iN],by simp [jJ,gP,iN,uM],by simp [jN,gP,iN,uM],by simp [kj,gP,iN],kT.B6 (by simp [gP,iN]) (by simp [gP,iN]),by simp [gP,iN,kw],fun _=>by simp [gP,iN]⟩
   clear k5 jJ jN kj kT k18 kw rows clk;rintro _ ⟨v21,rows,clk,rfl,k5,jJ,jN,kj,kT,kw,k21⟩;rw [uM]at jJ jN;apply W.seq
   refine W.dx (fun σ=>σ=⟨fa [(5, .ptr 5 v5 0 0),(11, .ptr 11 v11 0 0),(12, .ptr 12 Mu 0 0),(14, .ptr 14 XU 0 0),(15, .ptr 15 Mv 0 0),(16,ae j),(17,ae 0),(18, .ptr 18 VY 0 0),(19, .own w' vw 0 (S j).length),(20,ae j),(21, .ptr 21 v21 0 0),(93, .bool true)],rows,clk⟩) (fun K hK=>?_) ?_
   ·cases ok with
    | false =>
     apply (cp);exact hK _ _ (ak _ [5,11,12,14,15,16,17,18,19,20,21,93]) rfl
    | true =>
     obtain⟨zc,Em,cj⟩:=hcK rfl;have k21:=k21 rfl;simp only [QN.sj]at k21 cj;apply iS jN k21 cj;apply dB Em;exact hK _ _ (ak _ [5,11,12,14,15,16,17,18,19,20,21,93]) rfl
   clear k21 hnK hcK;rintro _ rfl;apply (dI)<;>intro h
   rotate_left;·simp at h
   apply (ey);refine W.freeze w' (by simp [kw]) fun K hK=>?_;simp [kw,gP,iN,<-aud];refine hK _ ?_;clear hK K;apply W.seq;have kT':=kT;simp only [db,QN.sj]at hNo hFA hcn
   refine W.De (fun σ=>aQ σ [(11, .ptr 11 v11 0 0),(12, .ptr 12 Mu 0 0),(15, .ptr 15 Mv 0 0),(132, .bool false)] fun rows clk=>rows 11=some ⟨v11,31,4,uM lo⟩∧rows 12=some ⟨Mu,31,4,uM hi⟩∧TT 43 0 15 Mv (R4 q j) rows) (fun K hK=>?_) ?_
   ·rcases kT with ⟨NJ,mo,wD⟩ | ⟨NJ,v43,_,mo,wD⟩
    ·have ZP:j=0:=(by rw [<-pK q j,NJ];rfl);subst ZP;simp (disch:=omega) [gw,jJ,jN,kj,mo,gP,iN];refine lC hEv rfl rfl p1 p1 (by simp [kj,gP,iN]) ?_;apply Ky jJ jN kj mo gP iN jJ jN kj mo gP iN;refine lC hNo rfl rfl p1 p1 (by first | simp [kj,gP,iN] | rfl) ?_;apply Ky jJ jN kj mo gP iN jJ jN kj mo gP iN;apply cT hFA;apply Ky jJ jN kj mo gP iN jJ jN kj mo gP iN;apply cT hcn;apply Ky jJ jN kj mo gP iN jJ jN kj mo gP iN;refine lC hCe rfl rfl p1 p1 (by first | simp [kj,gP,iN] | rfl) ?_;apply Ky jJ jN kj mo gP iN jJ jN kj mo gP iN;apply cT hTc;apply Ky jJ jN kj mo gP iN jJ jN kj mo gP iN;apply cT hSm;apply Ky jJ jN kj mo gP iN jJ jN kj mo gP iN;exact hK _ _ (ak _ [11,12,15,132]) ⟨_,_,rfl,by simp [jJ,gP,uM],by simp [jN,gP,uM],kT'.B6 (by simp [gP]) (by simp [gP])⟩
    ·rw [pK]at mo;simp (disch:=omega) [gw,jJ,jN,kj,mo,wD,gP,iN];refine lC hEv rfl rfl p1 p1 (by simp [kj,gP,iN]) ?_;apply KA jJ jN kj mo wD gP iN jJ jN kj mo wD gP iN
     try (refine aM (by decide +kernel) ?_)
     try simp (disch:=omega) [gw,jJ,jN,kj,mo,wD,gP,iN]
     (repeat (first | rw [if_pos (by decide +kernel)] | rw [if_neg (by decide +kernel)]))
     try simp (disch:=omega) [gw,jJ,jN,kj,mo,wD,gP,iN]
     refine lC hNo rfl rfl p1 p1 (by first | simp [kj,gP,iN] | rfl) ?_;apply KA jJ jN kj mo wD gP iN jJ jN kj mo wD gP iN;apply cT hFA;apply KA jJ jN kj mo wD gP iN jJ jN kj mo wD gP iN;apply cT hcn;apply KA jJ jN kj mo wD gP iN jJ jN kj mo wD gP iN;refine lC hCe rfl rfl p1 p1 (by first | simp [kj,gP,iN] | rfl) ?_;apply KA jJ jN kj mo wD gP iN jJ jN kj mo wD gP iN;apply cT hTc;apply KA jJ jN kj mo wD gP iN jJ jN kj mo wD gP iN;apply cT hSm;apply KA jJ jN kj mo wD gP iN jJ jN kj mo wD gP iN;exact hK _ _ (ak _ [11,12,15,132]) ⟨_,_,rfl,by simp [jJ,gP,uM],by simp [jN,gP,uM],kT'.B6 (by simp [gP]) (by simp [gP])⟩
   clear k5 jJ jN kj kT' kT kw rows clk;rintro _ ⟨rows,clk,rfl,jJ,jN,kT⟩
   apply (dI)<;>intro h
   ·simp at h
   apply (jm)
   refine W.dx (fun σ=>σ=⟨fa [(11, .ptr 11 v11 0 0),(12, .ptr 12 Mu 0 0),(15, .ptr 15 Mv 0 0),(134,ae j),(135,ae 0)],rows,clk⟩) (fun K hK=>?_) ?_
   ·rcases kT with ⟨NJ,mo,wD⟩ | ⟨NJ,v43,_,mo,wD⟩
    ·have ZP:j=0:=(by rw [<-pK q j,NJ];rfl);subst ZP;apply dB mo;exact hK _ _ (ak _ [11,12,15,134,135]) rfl
    ·rw [pK]at mo;apply fN mo wD;exact hK _ _ (ak _ [11,12,15,134,135]) rfl
   rintro _ rfl;apply W.block
   refine W.aO (fun kk σ=>∃(i:Nat) (clk:Nat),σ=⟨fa [(11, .ptr 11 v11 0 0),(12, .ptr 12 Mu 0 0),(15, .ptr 15 Mv 0 0),(134,ae j),(135,ae i)],rows,clk⟩∧i+kk=j) j ?_ ?_
   ·exact⟨_, .refl,0,_,rfl,aa⟩
   clear clk;rintro kk _ ⟨i,clk,rfl,qu⟩
   apply ef [11,12,15,134,135,136]<;>intro h
   ·have qy:i<j:=by simp at h;omega
    rcases kT with ⟨NJ,_,_⟩ | ⟨NJ,v43,_,mo,wD⟩
    ·have:j=0:=(by rw [<-pK q j,NJ];rfl);omega
    rw [pK]at mo;have hqi:=Pa q qy;have QQ:(tmq q j).length=j:=(by simp [tmq]);obtain⟨z1,RL,t1⟩:=ht1 i qy;obtain⟨z2,n6,t2⟩:=X8 i qy;have n6:¬z2<=0:=aa;rw [uM]at jJ jN;simp only [QN.sj]at t1 t2;apply lW [11,12,15,23,134,135]
    refine W.De (fun σ=>∃clk,σ=⟨fa [(11, .ptr 11 v11 0 0),(12, .ptr 12 Mu 0 0),(15, .ptr 15 Mv 0 0),(134,ae j),(135,ae i),(170, .bool false)],rows,clk⟩) (fun K hK=>?_) ?_
    ·by_cases hi0:i=0
     ·subst hi0;simp (disch:=omega) [gw,jJ,jN,mo,wD,hqi,qy,QQ,RL,n6];apply cT t1;simp (disch:=omega) [gw,jJ,jN,mo,wD,hqi,qy,QQ,RL,n6];apply cT t2;simp (disch:=omega) [gw,jJ,jN,mo,wD,hqi,qy,QQ,RL,n6];exact hK _ _ (ak _ [11,12,15,134,135,170]) ⟨_,rfl⟩
     ·obtain⟨i',rfl⟩:∃i',i=i'+1:=⟨i-1,aa⟩
      have abj:=Pa q (show i'<j by omega);have abk:i'<j:=aa;obtain⟨z3,Xx,t3⟩:=ht3 i' qy;have Xx:¬0<=z3:=aa;simp only [QN.sj]at t3;simp (disch:=omega) [gw,jJ,jN,mo,wD,hqi,qy,QQ,RL,n6,abj,abk];apply cT t1;simp (disch:=omega) [gw,jJ,jN,mo,wD,hqi,qy,QQ,RL,n6,abj,abk];apply cT t2;simp (disch:=omega) [gw,jJ,jN,mo,wD,hqi,qy,QQ,RL,n6,abj,abk];apply cT t3;simp (disch:=omega) [gw,jJ,jN,mo,wD,hqi,qy,QQ,RL,n6,abj,abk,Xx];exact hK _ _ (ak _ [11,12,15,134,135,170]) ⟨clk,av⟩
    rintro _ ⟨clk,rfl⟩
    apply (dI)<;>intro h
    ·simp at h
    ·apply W.skip;refine bB fun K hK=>?_;refine hK _ ⟨kk-1,_,ak _ [11,12,15,134,135],aa,i+1,_,rfl,aa⟩
   ·apply (ey);exact yN hw [10]
end Go.Proofs.YtiobceocpabjdaaGreat
