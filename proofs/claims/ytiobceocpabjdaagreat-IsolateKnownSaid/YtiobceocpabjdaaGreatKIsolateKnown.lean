/- For every input the law IsolateKnown of chapter 09 returns true, and each argument reads afterwards as it read before. No conditions. -/
import Derived.Test.YtiobceocpabjdaaGreatRows
import Derived.Test.YtiobceocpabjdaaGreatKar
set_option linter.unusedSimpArgs false
set_option linter.unusedVariables false
namespace Go.Proofs.YtiobceocpabjdaaGreat
open Go Pm
open ZX hiding N W
def AD(r:Rat)(l:List Rat):Bool:=l.any fun x=>decide (x=r)
theorem T4{r:Rat}{T:List Rat}{j:Nat}(h:j<T.length):AD r (T.drop j)=(decide (nth T j=r) || AD r (T.drop (j+1))):=by
 rw [List.drop_eq_getElem_cons h,←bZ h]
 simp [AD]
theorem NX{r:Rat}{l:List Rat}(h:AD r l=false):∀x∈l,x≠r:=fun x hx he=>by
 simp only [AD,List.any_eq_false,decide_eq_true_eq]at h
 exact h x hx he
theorem adB{T:List Rat}{r:Rat}(hs:T.Pairwise (· < ·)):∀ {j:Nat},j≤T.length→(∀j',j=j'+1→nth T j'<r) → ∀x∈T.take j,x<r
 | 0,_,_,x,hx=>by simp at hx
 | j+1,hj,h,x,hx=>by
  have h1:=h j rfl
  obtain⟨i,hi,rfl⟩:=List.mem_iff_getElem.1 hx
  rw [List.getElem_take]
  have kD:i<j+1:=by simp at hi;omega
  rw [bZ (by omega)]at h1
  rcases Nat.lt_or_ge i j with h2 | h2
  ·have:=List.pairwise_iff_getElem.1 hs i j (by omega) (by omega) h2
   grind
  ·have:i=j:=by omega
   subst this;exact h1
@[simp] theorem alu{l:List Rat}:bB 4 (emap rc l)=True:=cJ fun _=>rfl
@[simp] theorem ajw{v e n:Nat}{l:List Rat}:cK (some ⟨v,e,n,emap rc l⟩)=True:=cC fun _=>rfl
set_option maxHeartbeats 4000000 in
theorem uY(l:List Int)(hb:∀x∈l, -9223372036854775808≤x∧x<9223372036854775808)(hl:l.length<9223372036854775808):aL env.P 3 [aQ aG l] (.bool true):=by
 have hw:=NP
 have o1:aL env.P 11 [.sl [[.int .i64 1]]] (Po (of [1]).l):=OY [1] (by decide) (by decide)
 have s1:=C5 30 0 (by decide) (by decide)
 have s2:=C5 0 0 (by decide) (by decide)
 have t1:=(FA 30 0).tor (by decide)
 have t2:=(FA 0 0).tor (by decide)
 have apL:=nN (-100) 1 (by decide) (by decide)
 rw [show cY (-100) 1 = -100 from by decide,eP]at apL
 rw [eP]at s1 s2 t1 t2
 refine cH [(0,aQ aG l)] Tryz.func3 ?_
 refine aA [0] ?_
 refine a7 [0,3] o1 ?_
 refine aA [0,3,4] ?_
 refine W.nil 4 4 31 4 (by simp) (by decide) (fun K hK=>?_)
 refine W.lw [0,3,4] hK ?_;clear hK K;simp
 refine aR [0,3,4,5] ?_
 refine W.block ?_
 refine W.bC (fun k σ=>∃(T:List Rat) (p:ZX) (i v4:Nat) (rows:Pm.Rows) (clk:Nat),σ=⟨fa [(0,aQ aG l),(3,Po p.l),(4, .own 4 v4 0 T.length),(5, .int .i64 i)],rows,clk⟩∧rows 4=some ⟨v4,31,4,emap rc T⟩∧Kn T p∧T.length≤4∧k=l.length+2-i∧i≤l.length∧i%2=0) (l.length+2) ?_ ?_
 ·exact⟨_, .refl,[],of [1],0,_,_,_,rfl,by simp [emap],Kn.nil,by simp,by omega,by omega⟩
 rintro k _ ⟨T,p,i,v4,rows,clk,rfl,eU,KT,hT4,hk,sC⟩
 have lT:(emap rc T).length=T.length:=by simp [emap]
 refine W.seq ?_
 refine W.fX (fun σ=>∃(b:Bool),σ=⟨fa [(0,aQ aG l),(3,Po p.l),(4, .own 4 v4 0 T.length),(5, .int .i64 i),(29, .bool b)],rows,clk⟩∧(b=true↔(i+1<l.length∧T.length<4))) (fun K hK=>?_) ?_
 ·by_cases h1:i+1<l.length
  ·have QU:(i:Int)+1<l.length:=by omega
   by_cases h2:T.length<4
   ·have h2':(T.length:Int)<4:=by omega
    simp (disch:=omega) [gw,h1,QU,h2,h2',eU]
    exact hK _ _ (aD _ [0,3,4,5,29]) ⟨_,rfl,by simp [h1,h2]⟩
   ·have h2':¬(T.length:Int)<4:=by omega
    simp (disch:=omega) [gw,h1,QU,h2,h2',eU]
    exact hK _ _ (aD _ [0,3,4,5,29]) ⟨_,rfl,by simp [h1,h2]⟩
  ·have QU:¬(i:Int)+1<l.length:=by omega
   simp (disch:=omega) [gw,h1,QU,eU]
   exact hK _ _ (aD _ [0,3,4,5,29]) ⟨_,rfl,by simp [h1]⟩
 rintro _ ⟨b,rfl,hbb⟩
 refine bP ?_ ?_<;>intro h
 ·obtain⟨UN,hT3⟩:=hbb.1 h
  have hi0:i<l.length:=by omega
  have W1:=nO (nth l i) 19 (hb _ (bR hi0)) (by decide) (by decide)
  have W2:=nO (nth l (i+1)) 4 (hb _ (bR UN)) (by decide) (by decide)
  have b1:=Int.emod_nonneg (nth l i) (show (19:Int)≠0 by decide)
  have b2:=Int.emod_lt_of_pos (nth l i) (show (0:Int)<19 by decide)
  have b3:=Int.emod_nonneg (nth l (i+1)) (show (4:Int)≠0 by decide)
  have b4:=Int.emod_lt_of_pos (nth l (i+1)) (show (0:Int)<4 by decide)
  have hO:=nN (nth l i%19-9) (1+nth l (i+1)%4) (by omega) (by omega)
  have hrb:=apJ l i
  change aL env.P _ _ (RR (kn l i))at hO
  generalize kn l i=r at *
  have hq:=sq9 hrb
  have ajx:∀j,j<T.length → ∃z:Int,aL env.P 14 [R2 r.num r.den,R2 (nth T j).num (nth T j).den] (.int .i64 z)∧(z≤0↔r≤nth T j)∧(z=0↔nth T j=r):=fun j hj=>by
   have h1:=hq.cmp (sq9 (KT.rng _ (bR hj))) (by decide)
   rw [eP,eP]at h1
   exact⟨_,h1,JR,kZ.trans ⟨fun h=>h.symm,fun h=>h.symm⟩⟩
  rw [eP]at hO
  have ng:=mN r.num
  have z1:Z (-r.num):=Nat.lt_of_le_of_lt (mU (k:=4) (by rw [Int.natAbs_neg];omega)) (by decide)
  have z2:Z (r.den:Int):=Nat.lt_of_le_of_lt (mU (k:=4) (by omega)) (by decide)
  have n2:=tA (-r.num) z1
  have n3:=tA (r.den:Int) z2
  have bp:BZ 15 5 p:=(KT.lay (by omega)).bz
  have bl:BZ 15 5 (j4 r):=by
   have e1:=JT hrb
   have e2:(2:Nat)^15=32768:=by decide
   exact BZ.afG (by omega) (by rw [pE];decide)
  have hM:aL env.P 15 [Po p.l,Po (j4 r).l] (Po (p*j4 r).l):=uL (F0 bp) (F0 bl) (by decide)
  rw [aaw]at hM
  replace hM:aL env.P 15 [Po p.l, .sl [ie (-r.num),ie (r.den:Int)]] (Po (p*j4 r).l):=hM
  have apO:=fun j=>KT.ins (r:=r) hrb (k:=j)
  clear z1
  generalize -r.num=m' at *
  refine W.skip ?_
  refine W.iG (fun σ=>∃(T:List Rat) (p:ZX) (v4:Nat) (rows:Pm.Rows) (clk:Nat),σ=⟨fa [(0,aQ aG l),(3,Po p.l),(4, .own 4 v4 0 T.length),(5, .int .i64 i)],rows,clk⟩∧rows 4=some ⟨v4,31,4,emap rc T⟩∧Kn T p∧T.length≤4) ?_ ?_
  ·refine W.sd ?_
   simp (disch:=omega) [gw,hi0,UN]
   refine aC W1 ?_
   simp (disch:=omega) [gw,hi0,UN]
   refine aC W2 ?_
   simp (disch:=omega) [gw,hi0,UN]
   refine aC hO ?_
   simp (disch:=omega) [gw,hi0,UN]
   rw [if_pos (by kernel_rfl)]
   simp (disch:=omega) [gw]
   refine bM [0,3,4,5,6] ?_
   refine W.sr ?_
   simp (disch:=omega) [gw,eU]
   refine bM [0,3,4,5,6,7] ?_
   refine cL [0,3,4,5,6,7,8] ?_
   refine W.block ?_
   refine W.bC (fun k σ=>∃(j:Nat) (rows:Pm.Rows) (fQ:Nat),σ=⟨fa [(0,aQ aG l),(3,Po p.l),(4, .own 4 v4 0 T.length),(5, .int .i64 i),(6, .ptr 6 clk 0 0),(7, .int .i64 j),(8, .bool (AD r (T.drop j)))],rows,fQ⟩∧j≤T.length∧j=k∧(∀x∈T.drop j,r≤x)∧rows 4=some ⟨v4,31,4,emap rc T⟩∧rows 6=some ⟨clk,31,4,[rc r]⟩) T.length ?_ ?_
   ·exact⟨_, .refl,T.length,_,_,by rw [show AD r (T.drop T.length)=false by simp [AD]],Nat.le_refl _,rfl,by simp,by simp [eU],by simp⟩
   clear eU rows
   rintro m _ ⟨j,rows,fQ,rfl,hjT,rfl,QT,eU,l8⟩
   refine W.seq ?_
   refine W.HD (fun σ=>∃(b:Bool),σ=⟨fa [(0,aQ aG l),(3,Po p.l),(4, .own 4 v4 0 T.length),(5, .int .i64 i),(6, .ptr 6 clk 0 0),(7, .int .i64 j),(8, .bool (AD r (T.drop j))),(59, .bool b)],rows,fQ⟩∧(b=true ↔ ∃j',j=j'+1∧r≤nth T j')) (fun K hK=>?_) ?_
   ·cases j with
    | zero =>
     simp (disch:=omega) [gw,eU,l8]
     exact hK _ _ (aD _ [0,3,4,5,6,7,8,59]) ⟨_,rfl,by simp⟩
    | succ j =>
     obtain⟨z,hz,hz1,rL⟩:=ajx j (by omega)
     have gZ:(0:Int)<(j:Int)+1:=by omega
     have JU:j<T.length:=by omega
     simp (disch:=omega) [gw,eU,l8,gZ,JU]
     refine cX hz ?_
     exact hK _ _ (aD _ [0,3,4,5,6,7,8,59]) ⟨_,rfl,by simp [hz1]⟩
   rintro _ ⟨b,rfl,hb9⟩
   refine bP ?_ ?_<;>intro h
   ·obtain⟨j,rfl,hrj⟩:=hb9.1 h
    have JU:j<T.length:=by omega
    have gZ:(0:Int)<(j:Int)+1:=by omega
    have adC:=T4 (r:=r) JU
    obtain⟨z,hz,hz1,rL⟩:=ajx j JU
    have hbz:(z==0)=decide (nth T j=r):=by rw [Bool.eq_iff_iff];simp [rL]
    refine W.skip ?_
    refine W.block ?_
    refine W.HD (fun σ=>σ=⟨fa [(0,aQ aG l),(3,Po p.l),(4, .own 4 v4 0 T.length),(5, .int .i64 i),(6, .ptr 6 clk 0 0),(7, .int .i64 ((j:Int)+1)),(8, .bool (AD r (T.drop j)))],rows,fQ⟩) (fun K hK=>?_) ?_
    ·cases ha:AD r (T.drop (j+1))
     ·rw [ha,Bool.or_false]at adC
      simp (disch:=omega) [gw,eU,l8,gZ,JU]
      refine cX hz ?_
      exact hK _ _ (aD _ [0,3,4,5,6,7,8]) (by rw [adC];simp [hbz])
     ·rw [ha,Bool.or_true]at adC
      simp (disch:=omega) [gw,eU,l8,gZ,JU]
      exact hK _ _ (aD _ [0,3,4,5,6,7,8]) (by rw [adC];simp)
    rintro _ rfl
    refine W.cG (fun K hK=>?_);simp (disch:=omega) [gw]
    refine hK _ ⟨j,_,aD _ [0,3,4,5,6,7,8],by omega,j,_,_,rfl,by omega,rfl,?_,eU,l8⟩
    intro x hx
    rw [List.drop_eq_getElem_cons JU,←bZ JU]at hx
    rcases List.mem_cons.1 hx with rfl | hx
    ·exact hrj
    ·exact QT x hx
   ·have fS:∀j',j=j'+1→nth T j'<r:=fun j' hj'=>Rat.not_le.1 fun hle=>by
     rw [hb9.2 ⟨j',hj',hle⟩]at h;cases h
    have wT:=adB KT.UJ hjT fS
    refine fC ?_
    refine aR [0,3,4,5,6,7,73] ?_
    refine bP ?_ ?_<;>intro h
    ·refine fC ?_
     exact⟨_,aD _ [0,3,4,5],T,p,v4,_,_,rfl,eU,KT,hT4⟩
    ·have qF:=NX h
     have hgt:∀x∈T.drop j,r<x:=fun x hx=>Rat.lt_of_le_of_ne (QT x hx) fun he=>qF x hx he.symm
     have KT':=apO j wT hgt
     have apP:(T.take j++r::T.drop j).length=T.length+1:=by
      have:=congrArg List.length (List.take_append_drop j T)
      simp only [List.length_append,List.length_cons]at this ⊢
      omega
     have hld:(T.drop j).length=T.length-j:=by simp
     have hTk:List.take (T.length-j) (List.drop j (emap rc T))=emap rc (T.drop j):=by
      rw [List.take_of_length_le (by simp [emap])]
      simp [emap]
     have hpe:∀e∈emap rc (T.drop j),∀p∈e,bU p=true:=by
      intro e he p hp
      obtain⟨y,_,rfl⟩:=List.mem_map.1 he
      simp only [rc,List.mem_cons,List.not_mem_nil,or_false]at hp
      rcases hp with rfl | rfl | rfl | rfl<;>rfl
     obtain⟨T',hT'⟩:∃T',T'=T.take j++r::T.drop j:=⟨_,rfl⟩
     rw [←hT']at KT' apP
     refine W.skip ?_
     refine W.HD (fun σ=>∃(v:Nat) (rows:Pm.Rows) (fQ:Nat),σ=⟨fa [(0,aQ aG l),(3,Po p.l),(4, .own 4 v 0 T'.length),(5, .int .i64 i),(6, .ptr 6 clk 0 0)],rows,fQ⟩∧rows 4=some ⟨v,31,4,emap rc T'⟩∧rows 6=some ⟨clk,31,4,[rc r]⟩) (fun K hK=>?_) ?_
     ·simp (disch:=omega) [gw,eU,l8,hTk]
      refine ar7 (fun h=>by simpa [emap]using h) (by simp [emap];omega) ?_
      simp (disch:=omega) [gw]
      refine cU (by refine⟨?_,?_,?_⟩<;>kernel_rfl) ?_
      simp (disch:=omega) [gw]
      exact hK _ _ (aD _ [0,3,4,5,6]) ⟨_,_,_,by rw [apP,show T.length+1=j+(T.length-j+1)by omega];rfl,by simp [emap,hT'],by simp [l8]⟩
     clear eU l8 hT' rows fQ
     rintro _ ⟨v,rows,fQ,rfl,eU,l8⟩
     refine W.LV (fun K hK=>?_)
     simp (disch:=omega) [gw,l8]
     refine aC ng ?_
     simp (disch:=omega) [gw,l8]
     refine aC n2 ?_
     simp (disch:=omega) [gw,l8]
     refine aC n3 ?_
     simp (disch:=omega) [gw,l8]
     refine cX hM ?_
     exact hK _ ⟨_,aD _ [0,3,4,5],T',p*j4 r,_,_,_,rfl,by simp [eU],KT',by omega⟩
  clear eU KT hT4 lT hbb hT3 ajx hM apO bp rows clk p T
  rintro _ ⟨T,p,v4,rows,clk,rfl,eU,KT,hT4⟩
  refine W.cG (fun K hK=>?_);simp (disch:=omega) [gw]
  exact hK _ ⟨l.length+2-(i+2),_,aD _ [0,3,4,5],by omega,T,p,i+2,v4,_,_,rfl,eU,KT,hT4,rfl,by omega⟩
 ·refine fC ?_
  refine W.freeze 4 (by simp [eU]) (fun K hK=>?_)
  simp [eU]
  refine hK _ ?_;clear hK K
  clear eU hbb sC hk lT
  generalize AN rows [4]=rows
  obtain⟨q,w,F⟩:=apK KT hT4
  obtain⟨hlen,_,hro,hfa,hcr,hva,T9,htr,hfi,hfq,hcq,hwi,L3,hno⟩:=F
  generalize sq p=f at *
  generalize bE f=c at *
  generalize z7 (qb 15 5) 5 f=L at *
  clear KT
  generalize p.l=pl at *
  replace hno:aL env.P 24 [Po pl,T2 (wS 30 0).num (wS 30 0).den,T2 (wS 0 0).num (wS 0 0).den] (.sl []):=hno
  replace t1:aL env.P 23 [R2 (wS 30 0).num (wS 30 0).den] (T2 (wS 30 0).num (wS 30 0).den):=t1
  replace t2:aL env.P 23 [R2 (wS 0 0).num (wS 0 0).den] (T2 (wS 0 0).num (wS 0 0).den):=t2
  generalize wS 30 0=u1 at *
  generalize wS 0 0=u2 at *
  refine a7 [3,4,9,10] hro ?_
  refine W.seq ?_
  have aw1:(L.length:Int)=T.length:=by omega
  refine W.fX (fun σ=>∃(rows:Pm.Rows) (clk:Nat),σ=⟨fa [(3,Po pl),(4,aQ rc T),(9,aQ (ga f) L),(107, .bool false)],rows,clk⟩) (fun K hK=>?_) ?_
  ·simp (disch:=omega) [gw,hlen]
   exact hK _ _ (aD _ [3,4,9,107]) ⟨_,_,rfl⟩
  rintro _ ⟨rows,clk,rfl⟩
  refine bP ?_ ?_<;>intro h
  ·simp at h
  ·refine W.skip ?_
   refine aR [3,4,9,109,110] ?_
   refine W.block ?_
   refine W.bC (fun k σ=>∃(i:Nat) (rows:Pm.Rows) (clk:Nat),σ=⟨fa [(3,Po pl),(4,aQ rc T),(9,aQ (ga f) L),(109, .int .i64 T.length),(110, .int .i64 i)],rows,clk⟩∧i+k=T.length) T.length ?_ ?_
   ·exact⟨_, .refl,0,_,_,rfl,by omega⟩
   clear rows clk
   rintro k _ ⟨i,rows,clk,rfl,XZ⟩
   refine cL [3,4,9,109,110,111] ?_
   refine bP ?_ ?_<;>intro h
   ·have hi:i<T.length:=by simp at h;omega
    have hiL:i<L.length:=by omega
    have c1:=hfa i hi
    have c2:=hcr i hi
    have c3:=hva i hi
    have c4:=T9 i hi
    have c5:=htr i hi
    have c6:=hfi i hi
    have c7:=hfq i hi
    have c8:=hcq i hi
    obtain⟨c9,c10⟩:=hwi i hi
    rw [eP]at c2 c4 c5 c8
    generalize w i=wi at *
    generalize q i=qi at *
    clear hfa hcr hva T9 htr hfi hfq hcq hwi
    refine kK ?_
    refine cL [3,4,9,11,109,110] ?_
    refine W.HD (fun σ=>∃(rows:Pm.Rows) (clk:Nat),σ=⟨fa [(3,Po pl),(4,aQ rc T),(9,aQ (ga f) L),(11, .int .i64 i),(109, .int .i64 T.length),(110, .int .i64 i),(131, .bool false)],rows,clk⟩) (fun K hK=>?_) ?_
    ·simp (disch:=omega) [gw,hi,hiL]
     refine aC c1 ?_
     simp (disch:=omega) [gw,hi,hiL]
     refine aC c2 ?_
     simp (disch:=omega) [gw,hi,hiL]
     refine aC c3 ?_
     simp (disch:=omega) [gw,hi,hiL]
     exact hK _ _ (aD _ [3,4,9,11,109,110,131]) ⟨_,_,rfl⟩
    clear rows clk
    rintro _ ⟨rows,clk,rfl⟩
    refine bP ?_ ?_<;>intro h
    ·simp at h
    ·refine W.skip ?_
     refine a7 [3,4,9,11,12,109,110] apL ?_
     refine W.iF (fun σ=>∃(v:Nat) (rows:Pm.Rows) (clk:Nat),σ=⟨fa [(3,Po pl),(4,aQ rc T),(9,aQ (ga f) L),(11, .int .i64 i),(12, .ptr 12 v 0 0),(109, .int .i64 T.length),(110, .int .i64 i)],rows,clk⟩∧rows 12=some ⟨v,31,4,[rc (if 0<i then nth T (i-1)else -100)]⟩) ?_ ?_
     ·refine aA [3,4,9,11,12,109,110,134] ?_
      refine bP ?_ ?_<;>intro h
      ·have h0:0<i:=by simpa using h
       obtain⟨j,rfl⟩:∃j,i=j+1:=⟨i-1,by omega⟩
       have hj:j<T.length:=by omega
       refine W.cG (fun K hK=>?_);simp (disch:=omega) [gw,hj]
       exact hK _ ⟨_,aD _ [3,4,9,11,12,109,110],_,_,_,rfl,by simp⟩
      ·have h0:¬0<i:=by simpa using h
       refine W.skip ?_
       exact⟨_,aD _ [3,4,9,11,12,109,110],_,_,_,rfl,by rw [if_neg h0];simp⟩
     clear rows clk
     rintro _ ⟨v,rows,clk,rfl,JV⟩
     generalize (if 0<i then nth T (i-1)else -100)=lo at *
     replace c4:aL env.P 23 [R2 lo.num lo.den] (T2 lo.num lo.den):=c4
     replace c6:aL env.P 22 [Po pl,T2 lo.num lo.den] (.dX [GA f qi, .bool true]):=c6
     replace c5:aL env.P 23 [R2 (nth T i).num (nth T i).den] (T2 (nth T i).num (nth T i).den):=c5
     replace c9:aL env.P 24 [Po pl,T2 lo.num lo.den,T2 (nth T i).num (nth T i).den] (aQ (ga f) wi):=c9
     refine W.sr ?_
     simp (disch:=omega) [gw,JV]
     refine cX c4 ?_
     refine cV [3,4,9,11,12,13,14,109,110] c6 ?_
     refine W.HD (fun σ=>∃(rows:Pm.Rows) (clk:Nat),σ=⟨fa [(3,Po pl),(4,aQ rc T),(9,aQ (ga f) L),(109, .int .i64 T.length),(110, .int .i64 i),(171, .bool false)],rows,clk⟩) (fun K hK=>?_) ?_
     ·simp (disch:=omega) [gw,JV,hi]
      refine aC c7 ?_
      simp (disch:=omega) [gw,JV,hi]
      refine aC c8 ?_
      simp (disch:=omega) [gw,JV,hi]
      refine aC c4 ?_
      simp (disch:=omega) [gw,JV,hi]
      refine aC c5 ?_
      simp (disch:=omega) [gw,JV,hi]
      refine aC c9 ?_
      simp (disch:=omega) [gw,JV,hi,c10]
      exact hK _ _ (aD _ [3,4,9,109,110,171]) ⟨_,_,rfl⟩
     clear JV rows clk
     rintro _ ⟨rows,clk,rfl⟩
     refine bP ?_ ?_<;>intro h
     ·simp at h
     ·refine W.skip ?_
      refine W.cG (fun K hK=>?_);simp (disch:=omega) [gw]
      exact hK _ ⟨k-1,_,aD _ [3,4,9,109,110],by omega,i+1,_,_,rfl,by omega⟩
   ·refine fC ?_
    refine W.iF (fun σ=>∃(rows:Pm.Rows) (clk:Nat),σ=⟨fa [(3,Po pl)],rows,clk⟩) ?_ ?_
    ·refine aA [3,4,15] ?_
     refine aA [3,4,15,176] ?_
     refine bP ?_ ?_<;>intro h
     ·have gZ:0<T.length:=by simpa using h
      obtain⟨n,hn⟩:∃n,T.length=n+1:=⟨T.length-1,by omega⟩
      have hnT:n<T.length:=by omega
      have k5:=htr n hnT
      have k6:=L3 n hn.symm
      rw [eP]at k5
      replace k5:aL env.P 23 [R2 (nth T n).num (nth T n).den] (T2 (nth T n).num (nth T n).den):=k5
      replace k6:aL env.P 22 [Po pl,T2 (nth T n).num (nth T n).den] (.dX [QO, .bool false]):=k6
      rw [hn]
      refine W.sr ?_
      simp (disch:=omega) [gw,hnT]
      refine aC k5 ?_
      simp (disch:=omega) [gw,hnT]
      refine cV [3,17] k6 ?_
      refine aA [3,188] ?_
      refine bP ?_ ?_<;>intro h
      ·simp at h
      ·refine W.skip ?_
       exact⟨_,aD _ [3],_,_,rfl⟩
     ·refine W.skip ?_
      exact⟨_,aD _ [3],_,_,rfl⟩
    clear rows clk
    rintro _ ⟨rows,clk,rfl⟩
    refine W.fX (fun σ=>∃(rows:Pm.Rows) (clk:Nat),σ=⟨fa [(2, .bool true)],rows,clk⟩) (fun K hK=>?_) ?_
    ·simp (disch:=omega) [gw]
     refine cX s1 ?_
     refine cX t1 ?_
     refine cX s2 ?_
     refine cX t2 ?_
     refine cX hno ?_
     refine cX hw ?_
     exact hK _ _ (aD _ [2]) ⟨_,_,rfl⟩
    rintro _ ⟨rows,clk,rfl⟩
    exact cR
end Go.Proofs.YtiobceocpabjdaaGreat
set_option linter.unusedSimpArgs false
set_option linter.unusedVariables false
namespace Go.Proofs.YtiobceocpabjdaaGreat.isolateKnown
open Go Pm Go.ChangeShapes Go.WideShapes Go.ChangeAt Go.RowKit
theorem adD:FY Tryz.prog 3 (fun ps=>∃n:Int,ps=aG n ∧ -9223372036854775808≤n∧n<9223372036854775808):=
  (FY.int .i64 (by kernel_rfl)).mono fun ps ⟨n,h1,h2,h3⟩=>⟨n,h1,by simpa [IntKind.min,IntKind.signed,IntKind.bits]using h2,by simp [IntKind.max,IntKind.signed,IntKind.bits]at h3;omega⟩
theorem aaA:uJ Tryz.prog 22 (fun q=>∃l:List Int,q=aQ aG l∧(∀x∈l, -9223372036854775808≤x∧x<9223372036854775808)∧l.length<9223372036854775808):=
  (uJ.slice (e:=3) (by kernel_rfl) (by rw [show Tryz.prog.cellsOf 3=1 by kernel_rfl];decide) adD).mono fun q ⟨l,h1,h2,h3⟩=>by
    obtain⟨m,rfl,hm⟩:=maps (g:=aG) (Q:=fun n => -9223372036854775808≤n∧n<9223372036854775808) (fun ps h=>h) h2
    exact⟨m,h1,hm,by rw [List.length_map]at h3;simp only [maxLen]at h3;omega⟩
set_option maxRecDepth 100000 in
theorem lifted(os:Os)(started:os.Started)(H:Type)(enc:TypeId × Value→H) :
    ReturnsInHanded {} Tryz.checked os 3 .any (Rows.isolateKnownSpec.pre6 enc Tryz.prog Tryz.f3 Rows.isolateKnownRow.domain false) (Rows.isolateKnownSpec.post enc Tryz.prog Tryz.f3 false true false false):=by
  refine XT (C:=Tryz.checked) (Qs:=[fun q=>∃l:List Int,q=aQ aG l∧(∀x∈l, -9223372036854775808≤x∧x<9223372036854775808)∧l.length<9223372036854775808]) (tb:=4) own laidOut started (by kernel_rfl) Tryz.func3
    (ChangeSpec.witness6 (enc:=enc) (C:=Tryz.checked) false ⟨#[], #[.slice none 0 0],[]⟩ 16 (by kernel_rfl) (by kernel_rfl) (by kernel_rfl) (by kernel_rfl)) rfl ?_ (by kernel_rfl) (by kernel_rfl) ?_ ?_
  · intro ds h
    rw [show Tryz.f3.params.size=1 by kernel_rfl]at h
    match ds,h with
    | [_],_=>rfl
  · rw [show Tryz.f3.params.toList = [22]by kernel_rfl]
    exact⟨aaA,by kernel_rfl,of_decide_eq_true (by kernel_rfl),trivial⟩
  · rintro ps h
    obtain⟨_,_,rfl,⟨a0,rfl,h0,g0⟩,rfl⟩:=h
    exact uY a0 h0 g0
theorem z1:(Rows.isolateKnownRow.inPlace==Tryz.pinned.checked.prog.inPlace 3)=true:=by kernel_rfl
theorem z2:(Rows.isolateKnownRow.unfollowed==Tryz.pinned.checked.prog.unfollowed 3)=true:=by kernel_rfl
theorem z3:(Rows.isolateKnownRow.recurses==Tryz.pinned.checked.prog.recurses 3)=true:=by kernel_rfl
theorem z4:(Rows.isolateKnownRow.named==Tryz.pinned.checked.prog.varsNamed 3)=true:=by kernel_rfl
theorem closed:joinedFacts Tryz.pinned.checked.prog 3 Tryz.f3 Rows.isolateKnownSpec Rows.isolateKnownRow=true:=by
  unfold joinedFacts
  rw [z1,z2,z3,z4]
  kernel_rfl
theorem proved:Rows.IsolateKnownSaid:=
  OpenClaim.holds_of_wide 3 Tryz.f3 rfl rfl rfl rfl rfl rfl rfl ⟨rfl,rfl,rfl,rfl,rfl⟩ rfl rfl rfl rfl rfl (by kernel_rfl) Tryz.func3 closed
    (of_decide_eq_true (by kernel_rfl)) (by unfold Func.isWrapper;first | (rw [if_pos (by decide +kernel)];kernel_rfl) | (rw [if_neg (by decide +kernel)];exact⟨rfl,rfl⟩))
    (fun os started H enc _=>lifted os started H enc)
#print axioms proved
end Go.Proofs.YtiobceocpabjdaaGreat.isolateKnown
