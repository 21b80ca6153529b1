import Derived.Test.YtiobceocpabjdaaGreatGaj
set_option linter.unusedSimpArgs false
set_option linter.unusedVariables false
namespace Go.Proofs.YtiobceocpabjdaaGreat
open Go Pm List
open ZX hiding N W
variable {l:List PV}{i s k u:Nat}{v n d m e:Int}{c:List ZX}{x:List Int}{q:Rat}{rows:Pm.Rows}{a:ZX}
def uw(st:Nat × Int)(s:Int):Nat × Int:=if s=0 then st else(if st.2≠0∧s≠st.2 then st.1+1 else st.1,s)
def vr(l:List Int):Nat:=(l.foldl uw (0,0)).1
theorem Lv(l:List Int):∀st:Nat × Int,(l.foldl uw st).1<=st.1+l.length:=by
 induction l with
 | nil=>intro st;simp
 | cons s l ih =>
  intro st;have h:=ih (uw st s)
  have:(uw st s).1<=st.1+1:=by
   unfold uw
   split
   ·omega
   ·simp only;split<;>omega
  simp only [foldl_cons,length_cons];omega
theorem BD(l:List Int):vr l<=l.length:=by have:=Lv l (0,0);simpa [vr]using this
theorem xw{l:List Int}(h:i<l.length):(l.take (i+1)).foldl uw (0,0)=uw ((l.take i).foldl uw (0,0)) (nth l i):=by rw [take_add_one,getElem?_eq_getElem h,bJ h,foldl_append];rfl
theorem zB(l:List Int)(i:Nat):ay (nth l i) = [ae (nth l i)]:=rfl
theorem Lw(l:List Int)(hl:l.length<1099511627776):aj 223 [aw ay l] (ae (vr l)):=by
 have hv:vr l=((l.take l.length).foldl uw (0,0)).1:=by rw [take_length];rfl
 rw [hv];have hb:∀i,((l.take i).foldl uw (0,0)).1<=i:=fun i=>by have:=Lv (l.take i) (0,0);simp at this;omega
 have g9:=fun i (h:i<l.length)=>xw h;generalize (fun i=>(l.take i).foldl uw (0,0))=F at *;apply bL [(0,aw ay l)] Tryz.func223;apply eQ [0] [0,3,4];apply dU [0,3,4,7,8]
 refine W.aO (fun k σ=>∃(i:Nat) (n:Nat) (s:Int),aQ σ [(0,aw ay l),(3,ae n),(4,ae s),(7,ae l.length),(8,ae i)] fun rows clk=>i+k=l.length∧(l.take i).foldl uw (0,0)=(n,s)) l.length ?_ ?_
 ·exact⟨_, .refl,0,0,0,_,_,rfl,aa,av⟩
 rintro k _ ⟨i,n,s,rows,clk,rfl,qu,hF⟩;have hni:n<=i:=by have:=hb i;rw [hF]at this;exact this
 apply ef [0,3,4,7,8,9]<;>intro h
 ·have hi:i<l.length:=by simp at h;omega
  have ni:=g9 i hi;rw [hF]at ni;generalize hx:nth l i=x at *;apply W.skip
  refine W.dh (fun σ=>∃(n':Nat) (s':Int),aQ σ [(0,aw ay l),(3,ae n'),(4,ae s'),(7,ae l.length),(8,ae i)] fun rows clk=>uw (n,s) x=(n',s')) ?_ ?_
  ·apply mz [0,3,4,5,7,8];simp (disch:=omega) [gw,hi,hx,zB]
   apply u7 [0,3,4,5,7,8,15]<;>intro h
   ·have n7:x≠0:=au h
    refine W.fR (fun σ=>∃(n':Nat),aQ σ [(0,aw ay l),(3,ae n'),(5,ae i),(7,ae l.length),(8,ae i)] fun rows clk=>uw (n,s) x=(n',x)) ?_ ?_
    ·refine W.dx (fun σ=>∃(b:Bool),aQ σ [(0,aw ay l),(3,ae n),(5,ae i),(7,ae l.length),(8,ae i),(25, .bool b)] fun rows clk=>b=decide (s≠0∧x≠s)) (fun K hK=>?_) ?_
     ·by_cases Nb:s=0
      ·subst Nb;simp (disch:=omega) [gw,hi,hx,zB];exact hK _ _ (ak _ [0,3,5,7,8,25]) ⟨_,_,_,rfl,av⟩
      ·have Ey:(s != 0)=true:=au Nb;simp (disch:=omega) [gw,hi,hx,zB,Ey];exact hK _ _ (ak _ [0,3,5,7,8,25]) ⟨_,_,_,rfl,by simp [Nb];rfl⟩
     rintro _ ⟨b,rows,clk,rfl,rfl⟩
     apply (dI)<;>intro h
     ·have h:=of_decide_eq_true h;refine bB fun K hK=>?_;exact hK _ ⟨_,ak _ [0,3,5,7,8],n+1,_,_,rfl,by unfold uw;rw [if_neg n7];simp only;rw [if_pos h]⟩
     ·have h:=of_decide_eq_false h;apply W.skip;exact⟨_,ak _ [0,3,5,7,8],n,_,_,rfl,by unfold uw;rw [if_neg n7];simp only;rw [if_neg h]⟩
    rintro _ ⟨n',rows,clk,rfl,wX⟩;refine W.wI fun K hK=>?_;simp (disch:=omega) [gw,hi,hx,zB];exact hK _ ⟨_,ak _ [0,3,4,7,8],n',x,_,_,rfl,wX⟩
   ·have n7:x=0:=au h;apply W.skip;exact⟨_,ak _ [0,3,4,7,8],n,s,_,_,rfl,by unfold uw;rw [if_pos n7]⟩
  rintro _ ⟨n',s',rows,clk,rfl,wX⟩;refine bB fun K hK=>?_;refine hK _ ⟨k-1,_,ak _ [0,3,4,7,8],aa,i+1,n',s',_,_,rfl,aa,by rw [ni,wX]⟩
 ·have hi:i=l.length:=by simp at h;omega
  subst hi;apply qZ [2];rw [hF];exact gK
def eL(x:List Int):Int:=if x.length%2=0 then -(lead x).sign else(lead x).sign
def eR(x:List Int):Int:=(lead x).sign
def nO(c:List ZX)(n d:Int):List Int:=c.map fun p=>Fy p.l n d
def Rf(c:List ZX):List Int:=c.map fun p=>eL p.l
def Rg(c:List ZX):List Int:=c.map fun p=>eR p.l
theorem zD{l:List Int}:emap ay l ++ [[ae v]]=emap ay (l ++ [v]):=by simp [emap,ay]
theorem CK{α:Type}[Inhabited α](f:α->Int){c:List α}(h:i<c.length):(c.take i).map f ++ [f (nth c i)]=(c.take (i+1)).map f:=by rw [take_add_one,getElem?_eq_getElem h,bJ h,map_append];rfl
theorem Iz(hl:c.length<1000000)(hS:∀p∈c,aj 77 [PI p.l,R2 n d] (ae (Fy p.l n d))):aj 151 [aw zq c,R2 n d] (ae (vr (nO c n d))):=by
 have hT:=Lw (nO c n d) (by simp [nO];omega);have eB:(emap ay (nO c n d)).length=c.length:=by simp [nO,emap]
 have wH:(nO c n d)=(c.take c.length).map fun p=>Fy p.l n d:=by rw [take_length];rfl
 have htG:(nO c n d).take c.length=nO c n d:=take_of_length_le (by simp [nO]);generalize vr (nO c n d)=r at *;generalize hg:nO c n d=G at *;apply bL [(0,aw zq c),(1,R2 n d)] Tryz.func151;apply eQ [0,3] [0,3,5];refine W.nil 5 5 3 1 av ar fun K hK=>?_;refine W.lw [0,3,5] hK ?_;clear hK K;simp;apply dU [0,3,5,8,9]
 refine W.aO (fun k σ=>∃(i ver v3 e3:Nat),aQ σ [(0,aw zq c),(3, .ptr 3 v3 0 0),(5, .own 5 ver 0 i),(8,ae c.length),(9,ae i)] fun rows clk=>i+k=c.length ∧
  rows 3=some ⟨v3,e3,4,[[aw ay (aI DD n.natAbs), .bool (decide (n<0)),aw ay (aI DD d.natAbs), .bool (decide (d<0))]]⟩∧rows 5=some ⟨ver,3,1,emap ay ((c.take i).map fun p=>Fy p.l n d)⟩) c.length ?_ ?_
 ·exact⟨_, .refl,0,_,_,_,_,_,rfl,aa,by simp;first | exact⟨rfl,rfl⟩ | exact rfl,by simp [emap]⟩
 rintro k _ ⟨i,ver,v3,e3,rows,clk,rfl,qu,bA,dj⟩;have tZ:((c.take i).map fun p=>Fy p.l n d).length=i:=by simp;omega
 apply ef [0,3,5,8,9,10]<;>intro h
 ·have hi:i<c.length:=by simp at h;omega
  have hSi:=hS _ (bo hi);have SH:=CK (fun p:ZX=>Fy p.l n d) hi;generalize hpr:(c.take i).map (fun p=>Fy p.l n d)=pr at *;generalize hv:Fy (nth c i).l n d=v at *;have mg:(emap ay pr).length=i:=by simp [emap,tZ]
  apply lW [0,3,5,6,8,9];refine W.Dd fun K hK=>?_;apply ra hi bA dj hSi;simp (disch:=omega) [gw,dj,mg,zD]
  (try (refine aM (of_decide_eq_true bX) ?_));(try simp (maxSteps:=4000000) (disch:=omega) [gw,dj,mg,zD]);(repeat rw [if_pos bX]);(try simp (maxSteps:=4000000) (disch:=omega) [gw,dj,mg,zD])
  refine W.lw [0,3,5,8,9] hK ?_;clear hK K;simp;refine bB fun K hK=>?_;refine hK _ ⟨k-1,_,ak _ [0,3,5,8,9],aa,i+1,_,v3,e3,_,_,rfl,aa,by simp [bA],by simp [zD,SH]⟩
 ·have hi:i=c.length:=by simp at h;omega
  subst hi;rw [<-wH]at dj;apply (iq);apply ra dj eB htG hT;exact eK [4]
theorem IA(hn:sz 2 n<=YY)(hd:sz 2 d<=YY)(hm:sz 2 m<=YY)(he:sz 2 e<=YY)(hl:c.length<1000000)(h1:aj 151 [aw zq c,R2 n d] (ae (vr (nO c n d))))(h2:aj 151 [aw zq c,R2 m e] (ae (vr (nO c m e)))) :
  aj 76 [aw zq c,R2 n d,R2 m e] (ae (if m*d<n*e then 0 else(vr (nO c n d):Int)-vr (nO c m e))):=by
 have c1:=xt m e n d hm he hn hd;have v1:=BD (nO c n d);have v2:=BD (nO c m e);have l1:(nO c n d).length=c.length:=by simp [nO]
 have l2:(nO c m e).length=c.length:=by simp [nO]
 generalize vr (nO c n d)=a,vr (nO c m e)=b at *
 have hc:(dc (m*d) (n*e)<0)↔m*d<n*e:=by
  unfold dc;split
  ·omega
  ·split<;>omega
 generalize m*d=xx,n*e=yy at *;generalize dc xx yy=z at *;apply bL [(0,aw zq c),(1,R2 n d),(2,R2 m e)] Tryz.func76;apply fB [0,4,5]
 apply fH c1 [0,4,5,10]<;>intro h
 ·have h:z<0:=au h;rw [if_pos (hc.1 h)];exact dS [6]
 ·have h:¬z<0:=au h;rw [if_neg (fun hh=>h (hc.2 hh))];apply W.skip;apply W.sd;apply eO h1 h2;exact eK [6]
theorem aap(hn:Z n)(hd:Z d):aj 23 [R2 n d] (T2 n d):=by
 have t1:=E6 n hn;have t2:=E6 d hd;apply bL [(0,R2 n d)] Tryz.func23;apply gr [1,2];apply eO t1 t2;apply (cp)
 (try (refine aM (of_decide_eq_true bX) ?_));(try simp (maxSteps:=4000000) (disch:=omega) [gw]);(repeat rw [if_pos bX]);(try simp (maxSteps:=4000000) (disch:=omega) [gw])
 exact qi [2]
abbrev CH(c:List ZX):PV:=.rd [aw zp c]
theorem IB{l:List Int}(hs:∀s∈l,s = -1∨s=0∨s=1):∀i,i<=l.length->((l.take i).foldl uw (0,0)).2 = -1∨((l.take i).foldl uw (0,0)).2=0∨((l.take i).foldl uw (0,0)).2=1
 | 0,_ => .inr (.inl av)
 | i+1,h=>by
  rw [xw aa];have ih:=IB hs i aa;have:=hs _ (bo (show i<l.length by omega));unfold uw
  split
  ·exact ih
  ·exact this
theorem ux(g:FuncId)(hw:EZ g=false)(bF:List PV)(hc:bF.all cB=true)(c:List ZX)(sg:ZX->Int)(hl:c.length<1000000)(hs:∀p∈c,sg p = -1∨sg p=0∨sg p=1)(hg:∀p∈c,aj g (Po p.l::bF) (ae (sg p)))(hm:vz g=false:=by rfl) :
  aj 219 [CH c, .fn g bF] (ae (vr (c.map sg))):=by
 have hv:vr (c.map sg)=(((c.map sg).take c.length).foldl uw (0,0)).1:=by rw [take_of_length_le av];rfl
 rw [hv];have hb:∀i,(((c.map sg).take i).foldl uw (0,0)).1<=i:=fun i=>by have:=Lv ((c.map sg).take i) (0,0);simp at this;omega
 have g9:=fun i (h:i<(c.map sg).length)=>xw h;have Ir:=IB (l:=c.map sg) (fun s h=>by simp only [mem_map]at h;obtain⟨p,hp,rfl⟩:=h;exact hs p hp);have hln:(c.map sg).length=c.length:=av;have uh:∀i,i<c.length->nth (c.map sg) i=sg (nth c i):=fun i hi=>by rw [bJ (au hi),bJ hi];simp
 apply bL [(0,CH c),(1, .fn g bF)] Tryz.func219;apply eQ [0,1] [0,1,5,6];apply dU [1,5,6,13,14,15]
 refine W.aO (fun k σ=>∃(i:Nat) (n:Nat) (s:Int),aQ σ [(1, .fn g bF),(5,ae n),(6,ae s),(13,aw zp c),(14,ae c.length),(15,ae i)] fun rows clk=>i+k=c.length∧((c.map sg).take i).foldl uw (0,0)=(n,s)) c.length ?_ ?_
 ·exact⟨_, .refl,0,0,0,_,_,rfl,aa,av⟩
 rintro k _ ⟨i,n,s,rows,clk,rfl,qu,hF⟩;have hni:n<=i:=by have:=hb i;rw [hF]at this;exact this
 have hsv:=Ir i aa;rw [hF]at hsv;simp only at hsv
 apply ef [1,5,6,13,14,15,16]<;>intro h
 ·have hi:i<c.length:=by simp at h;omega
  have ni:=g9 i aa;have hgi:=hg _ (bo hi);have hxv:=hs _ (bo hi);rw [hF,uh i hi]at ni;generalize hx:sg (nth c i)=x at *;apply W.skip
  refine W.dh (fun σ=>∃(n':Nat) (s':Int),aQ σ [(1, .fn g bF),(5,ae n'),(6,ae s'),(13,aw zp c),(14,ae c.length),(15,ae i)] fun rows clk=>uw (n,s) x=(n',s')) ?_ ?_
  ·apply fj hi [1,5,6,8,13,14,15];apply W.sr;simp (disch:=omega) [gw, -EZ,hw, -vz,hm,hc];apply cT hgi;apply bM [1,5,6,9,13,14,15]
   apply cS [1,5,6,9,13,14,15,23]<;>intro h
   ·have n7:x=0:=au h;apply (ey);exact⟨_,ak _ [1,5,6,13,14,15],n,s,_,_,rfl,by unfold uw;rw [if_pos n7]⟩
   ·have n7:x≠0:=au h;apply W.skip
    refine W.fR (fun σ=>∃(n':Nat),aQ σ [(1, .fn g bF),(5,ae n'),(9,ae x),(13,aw zp c),(14,ae c.length),(15,ae i)] fun rows clk=>uw (n,s) x=(n',x)) ?_ ?_
    ·apply fi [1,5,9,13,14,15,27]<;>intro h
     ·have h:s = -x:=au h;refine bB fun K hK=>?_;exact hK _ ⟨_,ak _ [1,5,9,13,14,15],n+1,_,_,rfl,by unfold uw;rw [if_neg n7];simp only;rw [if_pos ⟨aa,aa⟩]⟩
     ·have h:¬s = -x:=au h;apply W.skip;exact⟨_,ak _ [1,5,9,13,14,15],n,_,_,rfl,by unfold uw;rw [if_neg n7];simp only;rw [if_neg (fun hh=>by obtain⟨h1,h2⟩:=hh;omega)]⟩
    rintro _ ⟨n',rows,clk,rfl,wX⟩;refine bB fun K hK=>?_;exact hK _ ⟨_,ak _ [1,5,6,13,14,15],n',x,_,_,rfl,wX⟩
  rintro _ ⟨n',s',rows,clk,rfl,wX⟩;refine bB fun K hK=>?_;refine hK _ ⟨k-1,_,ak _ [1,5,6,13,14,15],aa,i+1,n',s',_,_,rfl,aa,by rw [ni,wX]⟩
 ·have hi:i=c.length:=by simp at h;omega
  subst hi;apply qZ [4];rw [hF];exact gK
theorem VP{s k u:Nat}{n d:Int}(hn:sz LL n<=u)(hd:sz LL d<=u)(hu:1<=u):∀ {x:List Int},Bd LL s k x->sz LL (hm n d x).1<=s+x.length*(u+1)∧sz LL (hm n d x).2<=x.length*u+1
 | [],_=>⟨by show sz LL 0<=_;rw [show sz LL 0=0 by decide];omega,by show sz LL 1<=_;exact Nat.le_trans (dp (k:=1) fV ar) aa⟩
 | a::l,h=>by
  obtain⟨h1,h2⟩:=VP hn hd hu (x:=l) ⟨Nat.le_trans av h.len,fun c hc=>h.sz c (by simp [hc])⟩;have ha:=h.sz a av;have e:(a::l).length*u=l.length*u+u:=by rw [length_cons,Nat.add_mul];omega
  have e':(a::l).length*(u+1)=l.length*u+l.length+u+1:=by rw [length_cons,Nat.add_mul,Nat.mul_add];omega
  have e'':l.length*(u+1)=l.length*u+l.length:=by rw [Nat.mul_add];omega
  refine⟨?_,?_⟩
  ·have g1:=ct (b:=LL) fV h1 hn;have g2:=ct (b:=LL) fV ha h2;have:=mA (b:=LL) fV (Nat.le_trans g1 (Nat.le_max_left _ (s+(l.length*u+1)))) (Nat.le_trans g2 (Nat.le_max_right (s+l.length*(u+1)+u) _));refine Nat.le_trans this ?_;rw [e',e''];omega
  ·have:=ct (b:=LL) fV h2 hd;rw [e];exact Nat.le_trans this aa
theorem Rh(hx:Bd LL s k x)(hn:sz LL n<=u)(hd:sz LL d<=u)(hu:1<=u)(hk:k<1099511627776)(hB:s+k*(u+1)+u<500000000000):aj 167 [Po x,I n,I d] (I (hm n d x).1)∧Sz (hm n d x).1:=by
 have hl:=hx.len;have hO:=AU 1 ar ar;have bd:=fun i=>VP (s:=s) (k:=k) (x:=x.drop i) hn hd hu ⟨by simp;omega,fun c hc=>hx.sz c (mem_of_mem_drop hc)⟩;have hle:∀i,(x.drop i).length*(u+1)<=k*(u+1):=fun i=>Nat.mul_le_mul_right _ (by simp;omega);have VH:∀i,(x.drop i).length*u<=(x.drop i).length*(u+1):=fun i=>Nat.mul_le_mul_left _ aa;have step:∀i,i<x.length->hm n d (x.drop i)=((hm n d (x.drop (i+1))).1*n+nth x i*(hm n d (x.drop (i+1))).2,(hm n d (x.drop (i+1))).2*d):=fun i hi=>by rw [drop_eq_getElem_cons hi,bJ hi];rfl
 have Lp:hm n d (x.drop x.length)=(0,1):=by rw [drop_length];rfl
 have h0:hm n d (x.drop 0)=hm n d x:=rfl;have hz:Sz (hm n d x).1:=by have:=(bd 0).1;have:=hle 0;rw [h0]at *;show _<_;omega
 refine⟨?_,hz⟩
 have M:∀i,i<x.length->aj 66 [I (hm n d (x.drop (i+1))).1,I n] (I ((hm n d (x.drop (i+1))).1*n))∧aj 66 [I (nth x i),I (hm n d (x.drop (i+1))).2] (I (nth x i*(hm n d (x.drop (i+1))).2)) ∧
   aj 65 [I ((hm n d (x.drop (i+1))).1*n),I (nth x i*(hm n d (x.drop (i+1))).2)] (I (hm n d (x.drop i)).1)∧aj 66 [I (hm n d (x.drop (i+1))).2,I d] (I (hm n d (x.drop i)).2):=fun i hi=>by
  obtain⟨b1,b2⟩:=bd (i+1);have l1:=hle (i+1);have l2:=VH (i+1);have ha:=hx.sz _ (bo hi);have g1:=ct (b:=LL) fV b1 hn;have g2:=ct (b:=LL) fV ha b2;have zz:∀ {v:Int},sz LL v<1099511627776->Sz v:=fun h=>h;have e:=step i hi;rw [e];exact⟨vC (zz aa) (zz aa),vC (zz aa) (zz aa),Nd (zz aa) (zz aa),vC (zz aa) (zz aa)⟩
 clear bd hle VH step hz;generalize hm n d x=r0 at *;apply bL [(0,Po x),(1,I n),(2,I d)] Tryz.func167;apply aR [0,4,5,6];apply fk [0,4,5,6,7] hO [0,4,5,6,7,8];apply W.seq;apply aR [0,4,5,6,7,8,9];refine W.row (id:=7) (els:=[[.bool false, .nil]]) [[.bool (decide ((0:Int)<0)),us (aI LL (0:Int).natAbs)]] (by simp;first | exact⟨rfl,rfl,rfl⟩ | exact⟨rfl,rfl⟩ | rfl) ⟨⟨.inl rfl, .inr ⟨rfl,rfl⟩,trivial⟩,trivial⟩ ?_;apply W.block
 refine W.aO (fun k σ=>∃(v4 v5 v6 v7 v8 e4 e5 e6 e7 e8:Nat),aQ σ [(0,Po x),(4, .ptr 4 v4 0 0),(5, .ptr 5 v5 0 0),(6, .ptr 6 v6 0 0),(7, .ptr 7 v7 0 0),(8, .ptr 8 v8 0 0),(9,ae ((k:Int)-1))] fun rows clk=>k<=x.length ∧
  rows 4=some ⟨v4,e4,2,[[.bool (decide (n<0)),us (aI LL n.natAbs)]]⟩∧rows 5=some ⟨v5,e5,2,[[.bool (decide (d<0)),us (aI LL d.natAbs)]]⟩∧rows 6=some ⟨v6,e6,2,[[.bool false, .nil]]⟩ ∧
  rows 7=some ⟨v7,e7,2,[[.bool (decide ((hm n d (x.drop k)).1<0)),us (aI LL (hm n d (x.drop k)).1.natAbs)]]⟩ ∧
  rows 8=some ⟨v8,e8,2,[[.bool (decide ((hm n d (x.drop k)).2<0)),us (aI LL (hm n d (x.drop k)).2.natAbs)]]⟩) x.length ?_ ?_
 ·exact⟨_, .refl,_,_,_,_,_,_,_,_,_,_,_,_,rfl,Nat.le_refl _,by simp;(first | exact⟨rfl,rfl⟩ | rfl),by simp;(first | exact⟨rfl,rfl⟩ | rfl),by simp;(first | exact⟨rfl,rfl⟩ | rfl),by rw [Lp];simp;(first | exact⟨rfl,rfl⟩ | rfl),by rw [Lp];simp;(first | exact⟨rfl,rfl⟩ | rfl)⟩
 rintro k _ ⟨v4,v5,v6,v7,v8,e4,e5,e6,e7,e8,rows,clk,rfl,hkl,cN,dj,gu,Us,mI⟩
 apply cS [0,4,5,6,7,8,9,15]<;>intro h
 ·have wG:0<k:=by simp at h;omega
  obtain⟨k,rfl⟩:∃j,k=j+1:=⟨k-1,aa⟩
  obtain⟨m1,m2,m3,m4⟩:=M k aa;generalize hm n d (x.drop (k+1))=A at *;have e1:(((k+1:Nat):Int)-1).toNat=k:=aa;apply (ft);apply W.sd;apply iS cN Us m1;apply iI mI m2;apply jK m3;apply dB Us
  (try (refine aM (of_decide_eq_true bX) ?_));(try simp (maxSteps:=4000000) (disch:=omega) [gw,Us]);(repeat rw [if_pos bX]);(try simp (maxSteps:=4000000) (disch:=omega) [gw,Us])
  apply c9 [0,4,5,6,7,8,9];refine W.wI fun K hK=>?_;apply iS mI dj m4;apply dB mI;refine W.lw [0,4,5,6,7,8,9] hK ?_;clear hK K;simp;refine bB fun K hK=>?_;refine hK _ ⟨k,_,ak _ [0,4,5,6,7,8,9],aa,v4,v5,v6,v7,v8,_,_,_,_,_,_,_,rfl,aa,by simp [cN];exact rfl,by simp [dj];exact rfl,by simp [gu];exact rfl,by simp;exact rfl,by simp;exact rfl⟩
 ·have wG:k=0:=by simp at h;omega
  subst wG;rw [h0]at Us;apply (iq);exact AB Us gu [6]
theorem sE(v:Int):dc v 0=v.sign:=by
 rcases Int.lt_trichotomy v 0 with h | h | h
 ·rw [Int.sign_eq_neg_one_of_neg h,kK h]
 ·subst h;decide
 ·rw [Int.sign_eq_one_of_pos h,kN h]
theorem DV(hx:Bd LL s k x)(cx:Cn x)(hn:sz LL n<=u)(hd:sz LL d<=u)(hu:1<=u)(hk:k<1099511627774)(X1:u<500000000000)(hB:s+k*(u+1)+u<500000000000)(hq:dw n d=q)(sq:sz LL q.num<=u∧sz LL (q.den:Int)<=u):aj 87 [Po x,T2 n d] (ae (Fy x q.num q.den)):=by
 have p1:=Re (n:=n) (d:=d) (Nat.lt_of_le_of_lt hn aa) (Nat.lt_of_le_of_lt hd aa);rw [hq]at p1;have n1:=dW (x:=x) (PB.of hx aa aa);rw [show aK x=x from cx]at n1;obtain⟨hV,hz⟩:=Rh hx sq.1 sq.2 hu aa hB;have c1:=Ng (x:=(hm q.num q.den x).1) (y:=0) hz (show sz LL 0<_ by decide);rw [sE,show(hm q.num q.den x).1.sign=Fy x q.num q.den from rfl]at c1
 replace p1:aj 166 [T2 n d] (T2 q.num q.den):=p1
 generalize Fy x q.num q.den=r,(hm q.num q.den x).1=v at *;generalize q.num=qn,(q.den:Int)=qd at *;apply bL [(0,Po x),(1,T2 n d)] Tryz.func87;apply fk [0,3] p1 [0,3];apply W.sd;apply jK n1;apply eO hV c1;exact eK [4]
@[simp] theorem YN:cB (.rd l)=true:=rfl
@[simp] theorem TY:aF (.rd l)=true:=rfl
@[simp] theorem YO:aL (.rd l) = []:=rfl
@[simp] theorem ap2:dA (.rd l) = []:=rfl
@[simp] theorem awf:fz rows (.rd l) = .rd l:=rfl
@[simp] theorem awg:pz rows (.rd l) = .rd l:=rfl
theorem Ri(v:Int):aj 258 [I v] (ae v.sign):=by
 have h1:=UY (decide (v<0)) (aI LL v.natAbs)
 have e:(if (aI LL v.natAbs).length=0 then 0 else if decide (v<0)=true then -1 else 1:Int)=v.sign:=by
  by_cases h:v=0
  ·subst h;decide
  ·have:aI LL v.natAbs ≠ []:=fun h2=>h (by have:=jT fV v.natAbs;rw [h2]at this;simp [V]at this;omega);have h3:=length_pos_iff.2 this;rw [if_neg aa]
   rcases Int.lt_trichotomy v 0 with h4 | h4 | h4
   ·rw [if_pos (au h4),Int.sign_eq_neg_one_of_neg h4]
   ·exact absurd h4 h
   ·rw [if_neg (by simp;omega),Int.sign_eq_one_of_pos h4]
 rw [e]at h1;exact h1
theorem DW(hx:PB x)(cx:Cn x):aj 221 [Po x] (.cW [ae (eL x),ae (eR x)]):=by
 have n1:=dW hx;rw [show aK x=x from cx]at n1;have l1:=kv hx cx;have hS:=Ri (lead x);have hl:x.length<1099511627776:=by have:=hx.Ba.len;simpa using this
 have hL:eL x=if x.length%2=0 then -(lead x).sign else(lead x).sign:=rfl
 have hR:eR x=(lead x).sign:=rfl
 have hs : -1<=(lead x).sign∧(lead x).sign<=1:=by
  rcases Int.lt_trichotomy (lead x) 0 with h | h | h
  ·rw [Int.sign_eq_neg_one_of_neg h];decide
  ·rw [h];decide
  ·rw [Int.sign_eq_one_of_pos h];decide
 generalize (lead x).sign=s at *;generalize lead x=lx,eL x=a,eR x=b at *;apply bL [(0,Po x)] Tryz.func221;apply fk [0] n1 [0];apply kh l1 hS;apply bM [0,3];apply W.seq
 refine W.dx (fun σ=>∃(q:Bool),aQ σ [(3,ae s),(12, .bool q)] fun rows clk=>q=decide (x.length%2=0)) (fun K hK=>?_) ?_
 ·apply (cp);exact hK _ _ (ak _ [3,12]) ⟨_,_,_,rfl,by rw [Bool.eq_iff_iff];simp;omega⟩
 rintro _ ⟨q,rows,clk,rfl,rfl⟩
 apply (dI)<;>intro h
 ·rw [if_pos (of_decide_eq_true h)]at hL;subst hL hR;exact dS [2,3]
 ·rw [if_neg (of_decide_eq_false h)]at hL;subst hL hR;apply W.skip;exact dS [2,3]
theorem Lx(hx:PB x)(cx:Cn x):aj 220 [Po x] (ae (eL x)):=by have h1:=DW hx cx;generalize eL x=a,eR x=b at *;apply bL [(0,Po x)] Tryz.func220;apply fk [0] h1 [3];exact dS [2]
theorem Rj(hx:PB x)(cx:Cn x):aj 222 [Po x] (ae (eR x)):=by have h1:=DW hx cx;generalize eL x=a,eR x=b at *;apply bL [(0,Po x)] Tryz.func222;apply fk [0] h1 [4];exact dS [2]
theorem agL(v:Int):v.sign = -1∨v.sign=0∨v.sign=1:=by
 rcases Int.lt_trichotomy v 0 with h | h | h
 ·exact .inl (Int.sign_eq_neg_one_of_neg h)
 ·rw [h];exact .inr (.inl rfl)
 ·exact .inr (.inr (Int.sign_eq_one_of_pos h))
theorem eL3(x:List Int):eL x = -1∨eL x=0∨eL x=1:=by have:=agL (lead x);unfold eL;split<;>omega
theorem Ly(hl:c.length<1000000)(hS:∀p∈c,aj 87 [Po p.l,T2 n d] (ae (Fy p.l q.num q.den))):aj 168 [CH c,T2 n d] (ae (vr (nO c q.num q.den))):=by
 have hT1:∀p∈c,aj 232 [Po p.l, .rd [.bool (decide (n<0)),us (aI LL n.natAbs), .bool (decide (d<0)),us (aI LL d.natAbs)]] (ae (Fy p.l q.num q.den)):=fun p hp=>by have h1:=hS p hp;generalize Fy p.l q.num q.den=r at *;generalize p.l=x at *;apply bL [(0,Po x),(1, .rd [.bool (decide (n<0)),us (aI LL n.natAbs), .bool (decide (d<0)),us (aI LL d.natAbs)])] Tryz.func232;apply fk [0,1] h1 [3];exact gK
 have h1:=ux 232 rfl [.rd [.bool (decide (n<0)),us (aI LL n.natAbs), .bool (decide (d<0)),us (aI LL d.natAbs)]] rfl c (fun p=>Fy p.l q.num q.den) hl (fun p hp=>agL _) hT1;rw [show c.map (fun p=>Fy p.l q.num q.den)=nO c q.num q.den from rfl]at h1;generalize vr (nO c q.num q.den)=r at *;apply bL [(0,CH c),(1,T2 n d)] Tryz.func168;apply fk [0,3] h1 [4];exact gK
theorem FD(hl:c.length<1000000){p:Rat}{z:Int}(hz:aj 86 [T2 m e,T2 n d] (ae z))(h1:aj 168 [CH c,T2 n d] (ae (vr (nO c p.num p.den))))(h2:aj 168 [CH c,T2 m e] (ae (vr (nO c q.num q.den)))) :
  aj 88 [CH c,T2 n d,T2 m e] (ae (if z<0 then 0 else(vr (nO c p.num p.den):Int)-vr (nO c q.num q.den))):=by
 have v1:=BD (nO c p.num p.den);have v2:=BD (nO c q.num q.den);have l1:(nO c p.num p.den).length=c.length:=by simp [nO]
 have l2:(nO c q.num q.den).length=c.length:=by simp [nO]
 generalize vr (nO c p.num p.den)=a,vr (nO c q.num q.den)=b at *;apply bL [(0,CH c),(1,T2 n d),(2,T2 m e)] Tryz.func88;apply fB [0,4,5]
 apply fH hz [0,4,5,10]<;>intro h
 ·have h:z<0:=au h;rw [if_pos h];exact dS [6]
 ·have h:¬z<0:=au h;rw [if_neg h];apply W.skip;apply W.sd;apply eO h1 h2;exact eK [6]
section
variable {c:List ZX} (hl:c.length<1000000) (hb:∀p∈c,PB p.l)
include hl hb
theorem Rk:aj 149 [CH c] (ae (vr (Rf c))):=by have h1:=ux 220 rfl [] rfl c (fun p=>eL p.l) hl (fun p hp=>eL3 p.l) (fun p hp=>Lx (hb p hp) p.c);rw [show c.map (fun p=>eL p.l)=Rf c from rfl]at h1;generalize vr (Rf c)=r at *;apply bL [(0,CH c)] Tryz.func149;apply fk [0] h1 [2];exact gK
theorem VQ:aj 150 [CH c] (ae (vr (Rg c))):=by have h1:=ux 222 rfl [] rfl c (fun p=>eR p.l) hl (fun p hp=>agL _) (fun p hp=>Rj (hb p hp) p.c);rw [show c.map (fun p=>eR p.l)=Rg c from rfl]at h1;generalize vr (Rg c)=r at *;apply bL [(0,CH c)] Tryz.func150;apply fk [0] h1 [2];exact gK
theorem Lz:aj 74 [CH c] (ae ((vr (Rf c):Int)-vr (Rg c))):=by
 have h1:=Rk hl hb;have h2:=VQ hl hb;have v1:=BD (Rf c);have v2:=BD (Rg c);have l1:(Rf c).length=c.length:=by simp [Rf]
 have l2:(Rg c).length=c.length:=by simp [Rg]
 generalize vr (Rf c)=a,vr (Rg c)=b at *;apply bL [(0,CH c)] Tryz.func74;apply aR [0];apply kh h1 h2;exact eK [2]
end
theorem BE(ha:a≠0):Nf (sq a)∧dv (sq a) (nf a):=by
 have nA:=iM ha;unfold sq
 split
 ·exact⟨nA,dv.refl _⟩
 ·exact⟨(fX nA 0).1,zj nA 0⟩
theorem p9.sqb{n:Nat}(h:p9 s n a)(ha:a≠0):BZ (qb s n) n (sq a):=h.nfz.dv (iM ha) (BE ha).1 (BE ha).2
theorem p9.ch{n:Nat}(h:p9 s n a)(ha:a≠0)(qe:1<=n):Ch (qb s n) n (sq a):=⟨h.sqb ha,h.hn,qe,Nat.le_trans (Nat.mul_le_mul_right _ aa) h.hC⟩
theorem uy{n:Nat}(h:p9 s n a)(ha:a≠0)(qe:1<=n)(h1:1<=s):aj 81 [PI a.l] (aw zq (aH (sq a))):=
 yp (vT h h1) (h.ch ha qe) (by unfold qb;omega)
abbrev AP(x:List Int)(c:List ZX)(n d:Int):PV:=.ag [PI x,aw zq c,aw ay (aI DD n.natAbs), .bool (decide (n<0)),aw ay (aI DD d.natAbs), .bool (decide (d<0)),aw ay (aI DD n.natAbs), .bool (decide (n<0)),aw ay (aI DD d.natAbs), .bool (decide (d<0))]
theorem mQ(h:v.natAbs<2^k):sz 2 v<=k:=dp ar h
theorem CL(hn:n.natAbs<65536)(hd:d.natAbs<65536)(h0:d≠0){x:ZX}(hx:x.l = [-n,d]):aj 41 [R2 n d] (AP [-n,d] (aH (sq x)) n d):=by
 have bz:BZ 16 2 x:=⟨by rw [hx];simp,fun c hc=>by
  rw [hx]at hc;simp only [mem_cons,not_mem_nil,or_false]at hc
  rcases hc with rfl | rfl
  ·exact mQ (by rw [Int.natAbs_neg];exact hn)
  ·exact mQ hd⟩
 have hL:p9 16 2 x:=⟨bz,ar,ar,ar⟩
 have hc:=uy hL (ZX.ax.2 (by show 0<x.l.length;rw [hx];simp)) ar ar;rw [hx]at hc;generalize aH (sq x)=C at *;have zs:∀ {v:Int},v.natAbs<65536->sz 2 v<=16:=fun h=>mQ h;have hO:=nE 1 ar ar;have m1:=jX n 1 (by have:=zs hn;simp only [Y];omega) ar;have m2:=jX d 1 (by have:=zs hd;simp only [Y];omega) ar;have hng:=A6 (n:Rat);rw [kO]at m1 m2;rw [show -((n:Int):Rat)=((-n:Int):Rat)by simp]at hng;rw [show RR ((n:Int):Rat) = .ag (ri n)from congrArg PV.ag (fP n)]at m1 hng;rw [show RR ((d:Int):Rat) = .ag (ri d)from congrArg PV.ag (fP d)]at m2;rw [show RR ((-n:Int):Rat) = .ag (ri (-n))from congrArg PV.ag (fP (-n))]at hng;have e1:PI [-n,d] = .sl [ri (-n),ri d]:=rfl;rw [e1]at hc;unfold AP;rw [e1];clear e1 hL bz hx x;generalize -n=m at *;simp only [UC,Fz]at *;apply bL [(0,R2 n d)] Tryz.func41;apply gr [1,2];simp (maxSteps:=4000000) (disch:=omega) [gw];apply cT hO;simp (maxSteps:=4000000) (disch:=omega) [gw];apply cT m1;simp (maxSteps:=4000000) (disch:=omega) [gw];apply cT hng;simp (maxSteps:=4000000) (disch:=omega) [gw];apply cT hO;simp (maxSteps:=4000000) (disch:=omega) [gw];apply cT m2;simp (maxSteps:=4000000) (disch:=omega) [gw];apply c9 [1,2,3];apply W.sd;simp (maxSteps:=4000000) (disch:=omega) [gw];apply cT hc;simp (maxSteps:=4000000) (disch:=omega) [gw]
 try (refine aM bX ?_)
 try simp (maxSteps:=4000000) (disch:=omega) [gw]
 exact qi [2]
def VR(n d:Int):Rat:=dw (n%61-30) (1+d%6)
theorem DX(n d:Int)(hn : -9223372036854775808<=n∧n<9223372036854775808)(hd : -9223372036854775808<=d∧d<9223372036854775808):aj 25 [ae n,ae d] (RR (VR n d)):=by have w1:=mE n 61 hn ar ar;have w2:=mE d 6 hd ar ar;have h1:=Int.emod_nonneg n (show (61:Int)≠0 by decide);have h2:=Int.emod_lt_of_pos n (show (0:Int)<61 by decide);have h3:=Int.emod_nonneg d (show (6:Int)≠0 by decide);have h4:=Int.emod_lt_of_pos d (show (0:Int)<6 by decide);have o1:=lY (n%61-30) (1+d%6) aa aa;have e:dw (n%61-30) (1+d%6)=VR n d:=rfl;rw [e]at o1;generalize VR n d=q,n%61=a,d%6=b at *;rw [bW]at *;generalize q.num=qn,(q.den:Int)=qd at *;apply bL [(0,ae n),(1,ae d)] Tryz.func25;apply aR [0,1,4];apply lE w1;apply eO w2 o1;exact eK [4]
end Go.Proofs.YtiobceocpabjdaaGreat
namespace Pm
open Go Go.RowKit List
variable {o:Oper}{σ:PS}{E:Env}
def Rl(E:Env)(o:Oper)(K:PS->Prop)(σ:PS):Prop:=
 match o.op with
 | .build t ⟨[(0,x)]⟩=>E.ty t = .struct [(0,1,false)] (E.ty t).zero∧(E.ty t).zero.length=1∧cD (aJ σ.f x)=some [aJ σ.f x]∧ib σ.rows (aJ σ.f x)∧K (σ.put o.dst (.ag [aJ σ.f x]))
 | _=>False
section
variable {E:Env} {w0:World} {S0:dz} {m:Nat} {G:Gs}
theorem LA{a:Act}{w:World}{K:PS->Prop}(h:Rl E o K σ)(hR:Rel w0 S0 m G σ a w)(hd:∀t,o.dst=some t->t<m)
  {K':Act->World->Prop} {Q:Exit->Act->World->Prop} (hK:∀σ' a' w',K σ'->Rel w0 S0 m G σ' a' w'->K' a' w'):o.wp E.P a w K' Q:=by
 obtain⟨⟨c,rfl,hr,eB,hI,hf,hG⟩,hn,eW⟩:=hR;have hρ:=lS hf;obtain⟨dst,op,type,pos,after,guard⟩:=o;simp only at hd;unfold Rl at h;simp only at h
 split at h
 ·rename_i t x;obtain⟨hE,Ep,hc,ho,hk⟩:=h;rw [<-hr]at ho;obtain⟨g1,g2⟩:=mv (hρ x) hc (fun q hq=>by simp at hq;subst hq;exact ho);have ht:=E.ok t;rw [hE]at ht;obtain⟨⟨fields,hu,ha⟩,hz⟩:=ht;obtain⟨i,zv,hi,hzv,_,Em,_⟩:=hz.ok;have Ca:zv.cells.size=1:=by have:(zv.cells.toList.map jh).length=1:=(by rw [Em];exact Ep);simpa using this
  have xK:(a.eval x).cells.size=1:=by have:=g1.length;simpa using this.symm
  have CV:=oS 0 (a.eval x).cells.toList 0 zv.cells (by simp;omega);have hl:((a.eval x).cells.toList.zipIdx 0).foldl (fun cs (x:Value × Nat)=>cs.setIfInBounds (0+x.2) x.1) zv.cells=(a.eval x).cells:=by apply Array.toList_inj.1;rw [CV];have h1:(a.eval x).cells.toList.length=1:=au xK;have h2:zv.cells.toList.length=1:=au Ca;rw [h1];simp [drop_of_length_le,h2]
  have gQ:(execOp a.eval { dst:=dst,op:=.build t ⟨[(0,x)]⟩,type:=type,pos:=pos,after:=after,guard:=guard }).run E.P c.w = .ok (.value (.agg (a.eval x).cells)) c.w:=by have adk:Instr.fill (fun x=>(([(0,1,false)]:List (Nat × Nat × Bool)).toArray.map fun x=>(x.1,x.2.1))[x]?) zv.cells [(0,a.eval x)]=some (a.eval x).cells:=(by have MA:(([(0,1,false)]:List (Nat × Nat × Bool)).toArray.map fun x=>(x.1,x.2.1))[0]? = some (0,1):=av;simp only [Instr.fill,MA];rw [if_neg (by simp [xK,Ca])];have Xx:(a.eval x).cells.toList.zipIdx=(a.eval x).cells.zipIdx.toList:=av;have h5:(a.eval x).cells.zipIdx.foldl (fun cs (x:Value × Nat)=>cs.setIfInBounds (0+x.2) x.1) zv.cells=(a.eval x).cells:=(by rw [<-Array.foldl_toList,<-Xx];exact hl);simp only [h5]);simp only [execOp,Instr.build,zeroValue,typeInfo,program,Sem.run_bind,Sem.run,hi,hzv,Sem.run_pure,Result.andThen_ok,run_underlying hu,run_places ha];simp at adk;simp [adk]
  unfold Oper.wp;rw [gQ];refine hK _ _ _ hk ?_;exact oV hf hG hn eW (so.refl c) hI (show az c (.ag [aJ σ.f x]) (.agg (a.eval x).cells)from⟨(a.eval x).cells.toList,av,g1⟩) hd rfl (by simp [PS.put,hr]) eB
 ·exact h.elim
end
theorem W.agM{n:Nat}{tl:Nat->Nat}{Q:PX->PS->Prop}{id:Nat}{ops:List Oper}{y:Code}(i:Nat){o2:Oper}(ho:ops=ops.take i++o::o2::ops.drop (i+2))(hg:o.guard=none)(nW:o2.guard=none)
  (h:∀K:PS->Prop,(∀σ,W E n tl y Q σ->K σ)->go (aC E ops (ops.take i) (fun σ=>CF E o (fun σ=>Rl E o2 (aC E ops (ops.drop (i+2)) K) σ) σ) σ)):W E n tl (.seq (.region id ops.toArray false) y) Q σ:=by
 refine W.seq ?_;intro ec w0 S0 G a w Q' hR hQ;simp only [dQ,pS,Bool.and_eq_true]at ec;have hd:∀o∈ops,∀t,o.dst=some t->t<n:=fun o ho t ht=>by have:=Array.all_eq_true_iff_forall_mem.1 ec.1 o (au ho);simpa [ht]using this
 refine wp_region_list ?_;show wpList E.P ops.toArray Q' ops a w;have h1:=h (fun σ=>W E n tl y Q σ) fun _ h=>h;have lA:o∈ops:=by rw [ho];simp
 have ann:o2∈ops:=by rw [ho];simp
 have:=nJ (E:=E) (w0:=w0) (S0:=S0) (m:=n) (G:=G) (ops:=ops.toArray) (Q:=Q') (l2:=o::o2::ops.drop (i+2)) (K:=fun σ=>CF E o (fun σ=>Rl E o2 (aC E ops (ops.drop (i+2)) (fun σ=>W E n tl y Q σ)) σ) σ) (fun σ' a' w' hl gR=>by unfold wpList;rw [if_pos (by simp [Region.wanted,hg])];refine .inl (uk hl gR (hd o lA) fun σ2 a2 w2 hk JY=>?_);unfold wpList;rw [if_pos (by simp [Region.wanted,nW])];refine .inl (LA hk JY (hd o2 ann) fun σ3 a3 w3 XP hR3=>?_);exact ik (E:=E) (ops:=ops.toArray) (fun σ4 a4 w4 hk4 hR4=>hQ .normal σ4 a4 w4 hk4 hR4) _ σ3 a3 w3 (fun o ho=>hd o (mem_of_mem_drop ho)) XP hR3) (ops.take i) σ a w (fun o ho=>hd o (mem_of_mem_take ho)) h1 hR;rwa [<-ho]at this
@[simp] theorem ap3{K:PS->Prop}{f:Nat->PV}{rows:Rows}{clk:Nat}{d:Option Tmp}{ty:TypeId}{pos:String}{af:Array Edge}{t:TypeId}{x:Operand} :
  Rl E ⟨d, .build t ⟨[(0,x)]⟩,ty,pos,af,none⟩ K ⟨f,rows,clk⟩=aA (E.ty t = .struct [(0,1,false)] (E.ty t).zero∧(E.ty t).zero.length=1) (gJ (cD (aJ f x)) fun l=>aA (l = [aJ f x]∧jk rows [aJ f x]) (K ⟨put f d (.ag [aJ f x]),rows,clk⟩)):=by
 simp only [Rl,aA,gJ,jk,PS.put];apply propext
 constructor
 ·rintro⟨h1,h2,h3,h4,h5⟩;exact⟨⟨h1,h2⟩,_,h3,⟨rfl,au h4⟩,h5⟩
 ·rintro⟨⟨h1,h2⟩,l,h3,⟨rfl,h4⟩,h5⟩;exact⟨h1,h2,h3,au h4,h5⟩
end Pm
namespace Go.Proofs.YtiobceocpabjdaaGreat
open Go Pm List
variable {s n h:Nat}{a:ZX}
theorem BZ.ano{s' n' m:Nat}{c:ZX}(b:BZ s n a)(b':BZ s' n' c)(hm:ZX.N (a*c)<=m):BZ (s+s'+n') m (a*c):=by have h:=Bd.bN ar b' b;rw [w8]at h;exact⟨hm,fun d hd=>Nat.le_trans (h.sz d hd) aa⟩
theorem VS{f:ZX}(hf:f≠0)(bf:BZ 3 3 f):∀k,1<=k->BZ (6*k) (2*k+1) (f^k)∧f^k≠0∧ZX.N (f^k)=k*(ZX.N f-1)+1
 | 0,h=>by omega
 | 1,_=>by
  have e:f^1=f:=by rw [ZX.pow_succ',ZX.dX];grind
  rw [e];have:=ZX.ax.1 hf;exact⟨bf.mono aa aa,hf,aa⟩
 | k+2,_=>by
  obtain⟨h1,h2,h3⟩:=VS hf bf (k+1) aa;have hN:=ZX.ax.1 hf;have e:ZX.N (f^(k+2))=(k+2)*(ZX.N f-1)+1:=by rw [ZX.pow_succ',ZX.i9 h2 hf,h3,Nat.add_mul,Nat.add_mul];omega
  have hl:ZX.N f<=3:=bf.N;refine⟨?_,ZX.kB h2 hf,e⟩;have h4:=BZ.ano h1 bf (m:=2*(k+2)+1) (by rw [<-ZX.pow_succ',e];have:(k+2)*(ZX.N f-1)<=(k+2)*2:=Nat.mul_le_mul_left _ aa;omega);rw [ZX.pow_succ'];exact h4.mono aa (Nat.le_refl _)
theorem LB{x:List Int}(hx:x ≠ [])(hl:x.length<=3)(hc:∀c∈x,c.natAbs<8)(mN:x.getLast hx≠0):BZ 3 3 (ZX.of x)∧(ZX.of x).l=x∧ZX.of x≠0:=by
 have h1:aK x=x:=by
  obtain⟨y,z,rfl⟩:∃y z,x=y ++ [z]:=⟨x.dropLast,x.getLast hx,(dropLast_concat_getLast hx).symm⟩
  exact iJ (au mN) y
 have h2:(ZX.of x).l=x:=h1
 refine⟨⟨by rw [h2];exact hl,fun c Lg=>?_⟩,h2,ZX.ax.2 ?_⟩
 ·rw [h2]at Lg;exact dp ar (by have:=hc c Lg;show _<8;exact this)
 ·show 0<(ZX.of x).l.length;rw [h2];exact length_pos_iff.2 hx
def gM(l:List Int)(i:Nat):List Int:=
 if (nth l i).tmod 5=3 then [-(nth l i%9-4),nth l (i+2)%3-1,nth l (i+1)%5+1]else [-(nth l i%9-4),nth l (i+1)%5+1]
def rQ(l:List Int)(i:Nat):Nat:=1+(nth l (i+2)%3).toNat
def vY(l:List Int)(most i:Nat)(p:ZX):ZX:=if most<ZX.N p-1+rQ l i*(ZX.N (ZX.of (gM l i))-1)then p else p*ZX.of (gM l i)^rQ l i
def dG(l:List Int)(most:Nat):Nat->ZX
 | 0=>1
 | j+1=>vY l most (3*j) (dG l most j)
def made(l:List Int)(most:Nat):ZX:=if (0<l.length∧(nth l 0).tmod 7=6)then ZX.K (-3)*dG l most (min 6 (l.length/3))else dG l most (min 6 (l.length/3))
theorem zE(l:List Int)(i:Nat):BZ 3 3 (ZX.of (gM l i))∧(ZX.of (gM l i)).l=gM l i∧ZX.of (gM l i)≠0:=by
 have h9:=Int.emod_nonneg (nth l i) (show (9:Int)≠0 by decide);have h9':=Int.emod_lt_of_pos (nth l i) (show (0:Int)<9 by decide);have h5:=Int.emod_nonneg (nth l (i+1)) (show (5:Int)≠0 by decide);have h5':=Int.emod_lt_of_pos (nth l (i+1)) (show (0:Int)<5 by decide);have h3:=Int.emod_nonneg (nth l (i+2)) (show (3:Int)≠0 by decide);have h3':=Int.emod_lt_of_pos (nth l (i+2)) (show (0:Int)<3 by decide);unfold gM
 split
 ·refine LB av av (fun c hc=>?_) (by simp;omega);simp only [mem_cons,not_mem_nil,or_false]at hc;rcases hc with rfl | rfl | rfl<;>omega
 ·refine LB av av (fun c hc=>?_) (by simp;omega);simp only [mem_cons,not_mem_nil,or_false]at hc;rcases hc with rfl | rfl<;>omega
theorem FE(l:List Int)(i:Nat):1<=rQ l i∧rQ l i<=3:=by have h3:=Int.emod_nonneg (nth l (i+2)) (show (3:Int)≠0 by decide);have h3':=Int.emod_lt_of_pos (nth l (i+2)) (show (0:Int)<3 by decide);unfold rQ;omega
theorem VT{l:List Int}{most i:Nat}{p:ZX}(hp:p≠0)(b:BZ s (most+1) p):vY l most i p≠0∧BZ (s+25) (most+1) (vY l most i p):=by
 obtain⟨b1,b2,b3⟩:=zE l i;obtain⟨e1,e2⟩:=FE l i;obtain⟨h1,h2,h3⟩:=VS b3 b1 _ e1;unfold vY
 split
 ·exact⟨hp,b.mono aa (Nat.le_refl _)⟩
 ·rename_i h;have hN:=ZX.ax.1 hp;refine⟨ZX.kB hp h2,(BZ.ano b h1 (m:=most+1) (by rw [ZX.i9 hp h2,h3];omega)).mono aa (Nat.le_refl _)⟩
theorem mR(l:List Int)(most:Nat):∀j,dG l most j≠0∧BZ (1+25*j) (most+1) (dG l most j)
 | 0=>⟨ZX.mJ,by show(1:ZX).l.length<=most+1;exact Nat.succ_le_succ (Nat.zero_le _),fun c hc=>by have h1:(1:ZX).l = [1]:=ar;have JR:c∈(1:ZX).l:=hc;rw [h1]at JR;simp at JR;subst JR;exact dp ar ar⟩
 | j+1=>by obtain⟨h1,h2⟩:=mR l most j;obtain⟨h3,h4⟩:=VT (l:=l) (i:=3*j) h1 h2;exact⟨h3,h4.mono aa (Nat.le_refl _)⟩
theorem On(l:List Int)(most:Nat):made l most≠0∧BZ 153 (most+1) (made l most):=by
 obtain⟨h1,h2⟩:=mR l most (min 6 (l.length/3));unfold made
 split
 ·refine⟨ZX.kB (ZX.oc ar) h1,?_⟩;rw [BZ,K_l ar];exact⟨by have:=h2.len;simpa using this,fun c hc=>by simp only [mem_map]at hc;obtain⟨d,hd,rfl⟩:=hc;exact Nat.le_trans (ct ar (h2.sz d hd) (dp (k:=2) ar ar)) aa⟩
 ·exact⟨h1,h2.mono aa (Nat.le_refl _)⟩
theorem VU(l:List Int)(hl:l.length<9223372036854775808)(hb:∀x∈l, -9223372036854775808<=x∧x<9223372036854775808)(most:Nat)(hm:most<=100):aj 114 [aw ay l,ae most] (PI (made l most).l):=by
 obtain⟨J,hJ⟩:∃J,J=min 6 (l.length/3):=⟨_,rfl⟩
 have i3:=rP;have hmd:made l most=if (0<l.length∧(nth l 0).tmod 7=6)then ZX.K (-3)*dG l most J else dG l most J:=by rw [hJ];rfl
 rw [hmd];have h0:(1:ZX).l=(dG l most 0).l:=rfl;rw [h0]at i3;generalize hg0:(dG l most 0).l=g0 at *;apply bL [(0,aw ay l),(1,ae most)] Tryz.func114;apply fk [0,1] i3 [0,1,5];apply W.seq;apply aR [0,1,5,6];subst hg0;apply W.block
 refine W.aO (fun k σ=>∃(i j:Nat),aQ σ [(0,aw ay l),(1,ae most),(5,PI (dG l most j).l),(6,ae i)] fun rows clk=>i=3*j∧j+k=J) J ?_ ?_
 ·exact⟨_, .refl,0,0,_,_,rfl,rfl,aa⟩
 rintro k _ ⟨i,j,rows,clk,rfl,qy,Ta⟩;apply W.seq
 by_cases hj:j<J
 ·have a1:(i:Int)+2<(l.length:Int):=by omega
  have a2:(i:Int)<18:=aa;refine W.EP fun K hK=>?_;simp (disch:=omega) [gw,a1,a2];refine W.lw [0,1,5,6,21] hK ?_;clear hK K;simp;apply (dI)<;>intro h
  rotate_left
  ·cases h
  clear h;obtain⟨f1,f2,f3⟩:=zE l i;obtain⟨e1,e2⟩:=FE l i;obtain⟨p1,p2,p3⟩:=VS f3 f1 _ e1;obtain⟨m1,m2⟩:=mR l most j;have hJ6:J<=6:=aa;have hms:dG l most (j+1)=vY l most i (dG l most j):=by rw [qy];rfl
  have w1:=mE (nth l i) 9 (hb _ (bo aa)) ar ar;have w2:=mE (nth l (i+1)) 5 (hb _ (bo aa)) ar ar;have w3:=mE (nth l (i+2)) 3 (hb _ (bo aa)) ar ar;have bi:=hb _ (bo (show i<l.length by omega));have h9:=Int.emod_nonneg (nth l i) (show (9:Int)≠0 by decide);have h9':=Int.emod_lt_of_pos (nth l i) (show (0:Int)<9 by decide);have h5:=Int.emod_nonneg (nth l (i+1)) (show (5:Int)≠0 by decide);have h5':=Int.emod_lt_of_pos (nth l (i+1)) (show (0:Int)<5 by decide);have h3:=Int.emod_nonneg (nth l (i+2)) (show (3:Int)≠0 by decide);have h3':=Int.emod_lt_of_pos (nth l (i+2)) (show (0:Int)<3 by decide)
  have anp:=Q7 (a:=ZX.of (gM l i)) (k:=rQ l i) aa (fun r hr=>by
   rcases Nat.eq_zero_or_pos r with h0 | h0
   ·subst h0;have h1:BZ 1 1 (1:ZX):=(mR l 0 0).2;exact oL _ _ _ _ _ _ h1 f1 ar
   ·obtain⟨q1,_,_⟩:=VS f3 f1 r h0;exact oL _ _ _ _ _ _ q1 f1 (by show _<137438953472;omega))
  have hmul:=oL (dG l most j).l (ZX.of (gM l i)^rQ l i).l _ _ _ _ m2 p1 (by show _<137438953472;omega);have hpN:ZX.N (dG l most j)=(dG l most j).l.length:=rfl;have hfN:ZX.N (ZX.of (gM l i))=(gM l i).length:=by show(ZX.of (gM l i)).l.length=_;rw [f2]
  have nj:aK (gM l i)=gM l i:=f2;have anq:=LB (x:=[-(nth l i%9-4),nth l (i+1)%5+1]) av av (fun c hc=>by simp only [mem_cons,not_mem_nil,or_false]at hc;rcases hc with rfl | rfl<;>omega) (by simp;omega);have qQ:aK [-(nth l i%9-4),nth l (i+1)%5+1] = [-(nth l i%9-4),nth l (i+1)%5+1]:=anq.2.1;have of1:=vI [-(nth l i%9-4),nth l (i+1)%5+1] av (fun c hc=>by simp only [mem_cons,not_mem_nil,or_false]at hc;rcases hc with rfl | rfl<;>omega);rw [qQ]at of1;have of2:(nth l i).tmod 5=3->aj 97 [.sl [[ae (-(nth l i%9-4))],[ae (nth l (i+2)%3-1)],[ae (nth l (i+1)%5+1)]]] (PI (gM l i)):=fun h=>by have hx:gM l i = [-(nth l i%9-4),nth l (i+2)%3-1,nth l (i+1)%5+1]:=(by unfold gM;rw [if_pos h]);have:=vI (gM l i) (by rw [hx];simp) (fun c hc=>by rw [hx]at hc;simp only [mem_cons,not_mem_nil,or_false]at hc;rcases hc with rfl | rfl | rfl<;>omega);rw [nj]at this;rw [hx]at this |-;exact this
  have aed:¬(nth l i).tmod 5=3->gM l i = [-(nth l i%9-4),nth l (i+1)%5+1]:=fun h=>by unfold gM;rw [if_neg h]
  replace of1:aj 97 [.sl [[ae (-(nth l i%9-4))],[ae (nth l (i+1)%5+1)]]] (PI [-(nth l i%9-4),nth l (i+1)%5+1]):=of1
  have ayS:(gM l i).length=2∨(gM l i).length=3:=by unfold gM;split<;>simp
  have XP:(rQ l i:Int)=1+nth l (i+2)%3:=by unfold rQ;omega
  have hP6:rQ l i*(ZX.N (ZX.of (gM l i))-1)<=6:=by have:rQ l i*(ZX.N (ZX.of (gM l i))-1)<=3*2:=Nat.mul_le_mul e2 (by rw [hfN];omega);omega
  have hP:(1+nth l (i+2)%3)*(((gM l i).length:Int)-1)=((rQ l i*(ZX.N (ZX.of (gM l i))-1):Nat):Int):=by rw [hfN,Int.natCast_mul,XP];congr 1;omega
  have MA:0<(dG l most j).l.length∧(dG l most j).l.length<=most+1:=⟨ZX.ax.1 m1,m2.N⟩
  have aar:dG l most (j+1)=if most<(dG l most j).l.length-1+rQ l i*(ZX.N (ZX.of (gM l i))-1)then dG l most j else dG l most j*ZX.of (gM l i)^rQ l i:=by rw [hms,vY,hpN]
  rw [<-XP]at hP;rw [f2]at anp;clear hms p1 p2 p3 m1 m2 f1 f2 f3 anq qQ nj hpN hfN;generalize rQ l i*(ZX.N (ZX.of (gM l i))-1)=PP at *;generalize hK:rQ l i=kk at *;generalize hpm:bN (dG l most j).l (ZX.of (gM l i)^kk).l=pm at *;have atb:(dG l most j*ZX.of (gM l i)^kk).l=pm:=hpm;generalize ZX.of (gM l i)^kk=Fk at *;generalize hF:gM l i=F at *;generalize Pk:dG l most j=P0 at *;have ei1:((i:Int)+1).toNat=i+1:=aa;have ei2:((i:Int)+2).toNat=i+2:=aa;apply W.skip
  refine W.dh (fun σ=>∃(rows:Pm.Rows) (clk:Nat),σ=⟨fa [(0,aw ay l),(1,ae most),(5,PI (dG l most (j+1)).l),(6,ae i)],rows,clk⟩) ?_ ?_
  ·apply W.sd;simp (disch:=omega) [gw,ei1,ei2];apply cT w1;simp (disch:=omega) [gw,ei1,ei2];apply cT w2;simp (disch:=omega) [gw,ei1,ei2];apply cT w3;apply bM [0,1,5,6,7,8,9];apply gT of1 [0,1,5,6,7,8,9,10]
   refine W.fR (fun σ=>∃(rows:Pm.Rows) (clk:Nat),σ=⟨fa [(0,aw ay l),(1,ae most),(5,PI P0.l),(6,ae i),(9,ae kk),(10,PI F)],rows,clk⟩) ?_ ?_
   ·apply fi [0,1,5,6,7,8,9,10,54]<;>intro h
    ·have h:(nth l i).tmod 5=3:=au h;refine W.wI fun K hK=>?_;simp (disch:=omega) [gw,ei2];apply cT w3;apply my (of2 h);exact hK _ ⟨_,ak _ [0,1,5,6,9,10],_,_,by rw [XP];rfl⟩
    ·have h:¬(nth l i).tmod 5=3:=au h;rw [aed h];apply W.skip;exact⟨_,ak _ [0,1,5,6,9,10],_,_,by rw [XP];rfl⟩
   rintro _ ⟨rows,clk,rfl⟩;apply W.seq;apply fj hP [0,1,5,6,9,10,77]
   apply (dI)<;>intro h
   ·have h:most<P0.l.length-1+PP:=(by simp at h;omega);rw [if_pos h]at aar;rw [aar];apply (ey);exact⟨_,ak _ [0,1,5,6],_,_,rfl⟩
   ·have h:¬most<P0.l.length-1+PP:=(by simp at h;omega);rw [if_neg h]at aar;rw [aar,atb];apply W.skip;refine AE anp fun K hK=>?_;apply my hmul;exact hK _ ⟨_,ak _ [0,1,5,6],_,_,rfl⟩
  rintro _ ⟨rows,clk,rfl⟩;refine bB fun K hK=>?_;refine hK _ ⟨k-1,_,ak _ [0,1,5,6],aa,i+3,j+1,_,_,rfl,aa,aa⟩
 ·have VV:j=J:=by omega
  subst VV
  refine W.dx (fun σ=>∃(rows:Pm.Rows) (clk:Nat),σ=⟨fa [(0,aw ay l),(5,PI (dG l most j).l),(21, .bool false)],rows,clk⟩) (fun K hK=>?_) ?_
  ·by_cases a1:(i:Int)+2<(l.length:Int)
   ·have a2:¬(i:Int)<18:=(by omega);simp (disch:=omega) [gw,a1,a2];exact hK _ _ (ak _ [0,5,21]) ⟨_,_,rfl⟩
   ·simp (disch:=omega) [gw,a1];exact hK _ _ (ak _ [0,5,21]) ⟨_,_,rfl⟩
  rintro _ ⟨rows,clk,rfl⟩
  apply (dI)<;>intro h
  ·cases h
  clear h;have of3:=vI [-3] ar ar
  replace of3:aj 97 [.sl [[ae (-3)]]] (PI [-3]):=of3
  obtain⟨m1,m2⟩:=mR l most j;have hsc:=HI (dG l most j).l (-3) (m2.yy (by show _<=137438953472;omega) aa) (by show sz 2 (-3)<=137438953472;exact Nat.le_trans (dp (k:=2) ar ar) ar);have yE:aY (dG l most j).l (-3)=(ZX.K (-3)*dG l most j).l:=Cn.ext (Cn.aY _ _) (ZX.K (-3)*dG l most j).c fun t=>by rw [cM,ZX.dN,ZX.uK,Int.mul_comm]
  rw [yE]at hsc;apply (ey)
  refine W.fR (fun σ=>∃(rows:Pm.Rows) (clk:Nat),σ=⟨fa [(5,PI (if (0<l.length∧(nth l 0).tmod 7=6)then ZX.K (-3)*dG l most j else dG l most j).l)],rows,clk⟩) ?_ ?_
  ·by_cases uI:0<l.length
   ·by_cases h7:(nth l 0).tmod 7=6
    ·rw [if_pos ⟨uI,h7⟩];have b7:((nth l 0).tmod 7==6)=true:=au h7;apply W.sr;simp (disch:=omega) [gw,uI,b7,h7]
     apply u7 [5,92]<;>intro h
     ·refine AE of3 fun K hK=>?_;apply my hsc;exact hK _ ⟨_,ak _ [5],_,_,rfl⟩
     ·cases h
    ·rw [if_neg (fun h=>h7 h.2)];have b7:((nth l 0).tmod 7==6)=false:=au h7;apply W.sr;simp (disch:=omega) [gw,uI,b7,h7]
     apply u7 [5,92]<;>intro h
     ·cases h
     ·apply W.skip;exact⟨_,ak _ [5],_,_,rfl⟩
   ·rw [if_neg (fun h=>uI h.1)];have MF:l.length=0:=aa;apply fj MF [5,92]
    apply (dI)<;>intro h
    ·cases h
    ·apply W.skip;exact⟨_,ak _ [5],_,_,rfl⟩
  rintro _ ⟨rows,clk,rfl⟩;exact dS [4]
theorem BZ.z(b:BZ h n a)(hh:h<1099511627776):∀c∈a.l,Z c:=fun c hc=>Nat.lt_of_le_of_lt (b.sz c hc) hh
theorem zF(b:BZ h n a)(hh:h<1099511627776)(hn:n<1099511627776):aj 100 [PI a.l] (Po a.l):=NP a.l (b.z hh) (Nat.lt_of_le_of_lt b.len hn)
theorem anr{b:ZX}(ha:a≠0)(hb:Nf b)(h:∀p,ZX.od p->ZX.mu p b=min (ZX.mu p a) 1):sq a=b:=by
 have nA:=iM ha
 have e:sq a=sz' (nf a):=by
  unfold sq
  split
  ·rename_i h2;have h3:nf a=1:=nA.N1 (by rw [xp];exact h2);rw [h3];show 1=wz 1 0;rw [wz];show 1=qz 1 (gd 1);rw [Vu,Nf.one.self]
  ·rfl
 rw [e];exact Nf.rO (Vw nA) hb fun p hp=>by rw [Vx nA hp,N7 hp ha,h p hp]
end Go.Proofs.YtiobceocpabjdaaGreat
namespace Go.Proofs.YtiobceocpabjdaaGreat
open Go Pm List
open ZX hiding N W
variable {a f b:ZX}{α:Type}{s n u β C k:Nat}{c d:Int}{q t p:Rat}{L:List ZX}{x:List Int}
theorem Oo(h:2<=ZX.N a):nth (bQ a).l (ZX.N a-2)=lead a.l*((ZX.N a-1:Nat):Int):=by
 have h1:a.l.length=ZX.N a:=rfl;have h2:nth (bQ a).l (ZX.N a-2)=nth a.l (ZX.N a-1)*((ZX.N a-1:Nat):Int):=by show nth (aK (xn a.l)) _=_;rw [i7,xn,bJ (by simp;omega)];simp only [getElem_map,getElem_range];rw [show ZX.N a-2+1=ZX.N a-1 by omega]
 rw [h2,lead,h1]
theorem VW(h:2<=ZX.N a):ZX.N (bQ a)=ZX.N a-1:=by
 have h1:=mL a;have h2:=Oo h;have hl:=cZ a.c (show 0<a.l.length from by have:a.l.length=ZX.N a:=rfl;omega);have h3:nth (bQ a).l (ZX.N a-2)≠0:=by rw [h2];exact Int.mul_ne_zero hl aa
 rcases Nat.lt_or_ge (ZX.N a-2) (bQ a).l.length with h4 | h4
 ·have:ZX.N (bQ a)=(bQ a).l.length:=rfl;omega
 ·exact absurd (ir h4) h3
theorem VX(h:2<=ZX.N a):lead (bQ a).l=lead a.l*((ZX.N a-1:Nat):Int):=by rw [<-Oo h,lead,show(bQ a).l.length=ZX.N (bQ a)from rfl,VW h,show ZX.N a-1-1=ZX.N a-2 by omega]
theorem Rm(h:ZX.N a<=1):bQ a=0:=by refine Classical.byContradiction fun h0=>?_;have h1:=ZX.ax.1 h0;have:=mL a;omega
theorem aas(hf:Nf f):rJ (bQ f).l=(qf (bQ f)).l:=by
 have h:¬lead (bQ f).l<0:=by
  rcases Nat.lt_or_ge (ZX.N f) 2 with h2 | h2
  ·rw [Rm aa];decide
  ·rw [VX h2];have:=Int.mul_nonneg (Int.le_of_lt hf.l) (show (0:Int)<=((ZX.N f-1:Nat):Int)by omega);omega
 show _=jL (bQ f).l;rw [H7,if_neg h]
theorem FF{g:α->List PV}{l:List α}(hS:aj 70 [aw g l] (Po f.l))(h:Ch s n f)(hf:Nf f):aj 69 [aw g l] (.cW [CH (aH f),ae 0]):=by
 have hn:=h.hn;have hp:=h.pot;have hs:=hp.le;have bd:BZ (s+5) n (bQ f):=h.bz.bQ aa;have d1:=pw h.bz aa aa;have d2:=tK ((bQ f).l.map qA) (bd.Ba aa aa) (s:=s+5) (n:=n) (by rw [bY];exact Gw bd) aa aa;rw [yl,<-iA,aas hf]at d2;have b2:BZ (s+5) n (qf (bQ f)):=jc bd;have b1:BZ (s+5) n f:=h.bz.mono aa (Nat.le_refl _);have CC:ZX.N (qf (bQ f))<=ZX.N f:=Nat.le_trans (lj _) (Nat.le_trans (mL f) aa);have hc:aH f=f::um (ZX.N f) f (qf (bQ f)):=rfl;rw [BB CC (Nat.le_refl _)]at hc;have hf0:f.l.length≠0:=by have:=ZX.ax.1 hf.ne;exact Nat.pos_iff_ne_zero.1 this
 have hf1:¬f.l = []:=fun h0=>hf0 (by rw [h0];rfl);generalize hC:aH f=C,qf (bQ f)=g0,kA (bQ f).l=pc at *;generalize (bQ f).l=dl at *;apply bL [(0,aw g l)] Tryz.func69;apply fk [0] hS [4]
 apply cS [4,14]<;>intro h
 ·simp at h;exact absurd h hf1
 apply W.skip;refine W.agM 1 rfl rfl rfl fun K hK=>?_;apply (cp);refine W.lw [4,5] hK ?_;clear hK K;simp;apply kh d1 d2;apply bM [4,5,7];apply (iR)
 refine W.aO (fun k σ=>∃(L:List ZX) (x y:ZX) (i ver VY e18 s:Nat),aQ σ [(4,Po x.l),(5, .ptr 18 VY 0 0),(7,Po y.l)] fun rows clk=>rows 16=some ⟨ver,24,1,emap zp L⟩∧rows 18=some ⟨VY,e18,1,[[.own 16 ver 0 (i+1)]]⟩∧L.length=i+1 ∧
  L++um k x y=C∧k=ZX.N y∧BZ s n x∧BZ s n y∧ym 4500000000 n s x y∧i+ZX.N y<=20) (ZX.N g0) ?_ ?_
 ·exact⟨_, .refl,[f],f,g0,0,_,_,_,s+5,_,_,rfl,by simp [emap];(first | exact rfl | exact⟨rfl,rfl⟩),by simp;(first | exact rfl | exact⟨rfl,rfl⟩ | exact⟨rfl,rfl,rfl⟩),rfl,hc.symm,rfl,b1,b2,hp,by have:=b2.N;omega⟩
 rintro k _ ⟨L,x,y,i,ver,VY,e18,s,rows,clk,rfl,VZ,agN,hL,Lg,rfl,bx,sL,hp,hiN⟩;have hs:=hp.le;have Zg:=bx.len;have hly:=sL.len;have hLl:(emap zp L).length=i+1:=by simp [emap,hL]
 apply cS [4,5,7,27]<;>intro h
 ·have hy:y≠0:=ZX.ax.2 (by show 0<y.l.length;simp at h;omega);have hR:=H5 (x.l.map qA) (y.l.map qA) (bx.Ba aa aa) (sL.Ba aa aa) (s:=s) (s':=s) (N:=n) (by rw [bY];exact Gw bx) (by rw [bY];exact Gw sL) (by have:n*(s+n+1)<=20*4500000000:=Nat.mul_le_mul hn hs;omega);rw [yl,yl,if_neg (te hy),<-iA,<-iA]at hR;have br:=Oi bx sL hy;have adg:(ZX.N x+1-ZX.N y)*(s+n+1)<=22*4500000000:=Nat.mul_le_mul (by have:ZX.N x=x.l.length:=rfl;omega) aa;have hrz:H3 x.l y.l=(qf (rz x y)).l:=by obtain⟨KB,hN,_⟩:=sN (a:=x) hy;obtain⟨m,q,hm,e⟩:=VI y.c (ZX.ax.1 hy) (x.l.length+1) x.l x.c aa;rw [<-KB]at e;exact VJ x.c y.c (ZX.ax.1 hy) (rz x y).c hN hm e
  rw [hrz]at hR;have hNg:=DA (x:=(qf (rz x y)).l) (PB.of (Gw (jc br)) aa aa);have e3:gL (qf (rz x y)).l=(nx x y).l:=rfl;rw [e3]at hNg;have CC:=Rb (a:=x) hy;have Gq:=hp.step CC;have bn:=Oj bx sL hy
  have hch:L ++ [y]++um (ZX.N (nx x y)) y (nx x y)=C:=by
   rw [<-Lg];obtain⟨j,hj⟩:∃j,ZX.N y=j+1:=⟨ZX.N y-1,by have:=ZX.ax.1 hy;have:ZX.N y=y.l.length:=rfl;omega⟩
   rw [hj,um,if_neg aa,BB (k:=j) (j:=ZX.N (nx x y)) aa (Nat.le_refl _)];simp
  generalize (qf (rz x y)).l=pl at *;generalize Sr:nx x y=nn at *;apply (qj);apply W.sr;apply qk VZ agN hLl;apply c9 [4,5,7];apply gT hR [5,7,8];refine u9 hNg fun K hK=>?_;refine hK _ ⟨ZX.N nn,_,ak _ [4,5,7],CC,L ++ [y],y,nn,i+1,_,VY,e18,_,_,_,rfl,by simp;first | exact rfl | skip,by simp;first | exact rfl | skip,by simp [hL],hch,rfl,sL.mono aa (Nat.le_refl _),bn,Gq,aa⟩
 ·have hy:y=0:=by refine Classical.byContradiction fun h0=>?_;have h1:=ZX.ax.1 h0;have h2:ZX.N y=y.l.length:=rfl;simp at h;rw [h2,h]at h1;simp at h1
  subst hy;rw [j4,append_nil]at Lg;subst Lg;have wH:List.take (i+1) L=L:=take_of_length_le aa;apply (ey);refine W.ET 16 (by rw [VZ];simp) fun K hK=>?_;simp [VZ];refine hK _ ?_;have ans:Cy rows 16 18=some ⟨VY,e18,1,[[aw zp L]]⟩:=by simp [agN,VZ,hLl,wH]
  clear VZ agN;generalize Cy rows 16=rG at *;apply aR [2,3];apply W.ret;simp [go,ans]
theorem V0{n:Nat}(hn:n<=20):∀(j s:Nat) (x g:ZX),BZ s n x->BZ s n g->ym 4500000000 n s x g -> ∀p∈um j x g,BZ 4500000000 n p
 | 0,_,_,_,_,_,_,p,hp=>by cases hp
 | j+1,s,x,g,bx,bg,hP,p,hp=>by
  have hs:=hP.le;rw [um]at hp
  split at hp
  ·cases hp
  ·rename_i h0;have h0':g≠0:=ZX.ax.2 (Nat.pos_of_ne_zero h0)
   rcases mem_cons.1 hp with rfl | hp
   ·exact bg.mono aa (Nat.le_refl _)
   ·exact V0 hn j _ g (nx x g) (bg.mono aa (Nat.le_refl _)) (Oj bx bg h0') (hP.step (Rb h0')) p hp
theorem Oq:∀(j:Nat) (x g:ZX),(um j x g).length<=j
 | 0,_,_=>Nat.le_refl _
 | j+1,x,g=>by
  rw [um]
  split
  ·simp
  ·simp only [length_cons];have:=Oq j g (nx x g);omega
theorem Ch.all(h:Ch s n f):(∀p∈aH f,BZ 4500000000 n p)∧(aH f).length<=21:=by
 have hp:=h.pot;have hs:=hp.le;have hn:=h.hn
 refine⟨fun p hq=>?_,?_⟩
 ·rcases mem_cons.1 hq with rfl | hq
  ·exact h.bz.mono aa (Nat.le_refl _)
  ·exact V0 hn _ _ _ _ (h.bz.mono aa (Nat.le_refl _)) (jc (h.bz.bQ aa)) hp p hq
 ·have:=Oq (ZX.N f) f (qf (bQ f));have h2:=h.bz.N;show(f::um (ZX.N f) f (qf (bQ f))).length<=21;simp only [length_cons];omega
theorem aat{u v:ZX}(na:Nf a)(hc:c≠0)(h:u*a+v*bQ a=K c):sq a=a:=anr na.ne na fun p hp=>by
 have hm:mu p a<=1:=by
  rcases Nat.lt_or_ge (mu p a) 2 with h1 | h1
  ·omega
  ·exfalso;obtain⟨m,hmm⟩:∃m,mu p a=m+1:=⟨mu p a-1,aa⟩
   obtain⟨_,h2⟩:=xo hp na.ne hmm;have d1:dv p a:=(by have:=(ja hp na.ne).1 (show 1<=mu p a by omega);rwa [show p^1=p by rw [pow_succ',dX];grind]at this);have hd:bQ a≠0:=fun h0=>by rw [h0]at h2;have:mu p (0:ZX)=m:=h2;have h9:=(xo hp na.ne hmm).1;exact h9 h0
   have d2:dv p (bQ a):=(by have:=(ja hp hd).1 (show 1<=mu p (bQ a)by omega);rwa [show p^1=p by rw [pow_succ',dX];grind]at this);have d3:dv p (K c):=(by rw [<-h];exact(d1.mul_left u).add (d2.mul_left v));have h3:=d3.j2 (oc hc);have h4:=hp.Z5;rw [XN hc]at h3;omega
 omega
theorem aX(q:Rat):dw q.num q.den=q:=by rw [dw,if_neg (by have:=q.den_nz;omega)];exact Rat.num_divInt_den q
theorem LC(n d:Int):(VR n d).num.natAbs<=30∧((VR n d).den:Int).natAbs<=6:=by have h1:=Int.emod_nonneg n (show (61:Int)≠0 by decide);have h2:=Int.emod_lt_of_pos n (show (0:Int)<61 by decide);have h3:=Int.emod_nonneg d (show (6:Int)≠0 by decide);have h4:=Int.emod_lt_of_pos d (show (0:Int)<6 by decide);unfold VR;rw [o9 _ _ aa,pg _ _ aa];rw [if_neg aa,if_neg aa];refine⟨Nat.le_trans (Int.natAbs_ediv_le_natAbs _ _) aa,Nat.le_trans (Int.natAbs_ediv_le_natAbs _ _) aa⟩
structure SQ(u:Nat)(q:Rat):Prop where
 n2:sz 2 q.num<=u
 d2:sz 2 (q.den:Int)<=u
 hu:1<=u
theorem SQ.nL(h:SQ u q):sz LL q.num<=u:=Nat.le_trans (Bu _) h.n2
theorem SQ.dL(h:SQ u q):sz LL (q.den:Int)<=u:=Nat.le_trans (Bu _) h.d2
theorem V1(n d:Int):SQ 5 (VR n d):=by obtain⟨h1,h2⟩:=LC n d;exact⟨mQ aa,mQ aa,ar⟩
section
variable {c:List ZX} {n u:Nat} {q:Rat} (hb:∀p∈c,BZ 4500000000 n p) (hn:n<=20) (hl:c.length<=21) (hq:SQ u q) (hu:u<=1000000000)
include hb hn hl hq hu
theorem V2:aj 151 [aw zq c,R2 q.num q.den] (ae (vr (nO c q.num q.den))):=Iz aa fun p hp=>by have hmul:n*(u+1)<=20*(u+1):=Nat.mul_le_mul_right _ hn;exact sO (hb p hp) hq.n2 hq.d2 hq.hu aa (by show _<137438953472;omega)
theorem V3:aj 168 [CH c,T2 q.num q.den] (ae (vr (nO c q.num q.den))):=Ly aa fun p hp=>by have hmul:n*(u+1)<=20*(u+1):=Nat.mul_le_mul_right _ hn;exact DV (Gw (hb p hp)) p.c hq.nL hq.dL hq.hu aa aa aa (aX q) ⟨hq.nL,hq.dL⟩
end
theorem pbs{c:List ZX}(hb:∀p∈c,BZ 4500000000 n p)(hn:n<=20):∀p∈c,PB p.l:=fun p hp=>(hb p hp).pb ar aa
structure MK(a:ZX)(c:List ZX):Prop where
 to:aj 100 [PI a.l] (Po a.l)
 new:aj 69 [Po a.l] (.cW [CH c,ae 0])
 chain:aj 81 [PI a.l] (aw zq c)
 bd:∀p∈c,BZ 4500000000 20 p
 len:c.length<=21
theorem MK.of(h:p9 s n a)(h0:a≠0)(qe:1<=n)(h1:1<=s):MK a (aH (sq a)):=by
 have hC:=h.ch h0 qe;obtain⟨hb,hl⟩:=hC.all;have VC:=h.qc;have hs:s<1099511627776:=by unfold qb at VC;omega
 have hn:=h.hn;exact⟨zF h.bz hs aa,FF (ug h) hC (BE h0).1,uy h h0 qe h1,fun p hp=>(hb p hp).mono (Nat.le_refl _) hn,hl⟩
theorem nP(a b:Nat):(2:Rat)^(a+b)=2^a*2^b:=by
 induction b with
 | zero=>simp
 | succ b ih=>rw [<-Nat.add_assoc,Rat.pow_succ,Rat.pow_succ,ih];grind
theorem two_pow_pos(a:Nat):(0:Rat)<2^a:=Rat.pow_pos ar
theorem nQ:∀a:Nat,(1:Rat)<=2^a
 | 0=>by simp
 | a+1=>by have:=nQ a;rw [Rat.pow_succ];grind
theorem kF{a b:Nat}(h:a<=b):(2:Rat)^a<=2^b:=by obtain⟨c,rfl⟩:=Nat.exists_eq_add_of_le h;rw [nP];have h1:=nQ c;have h2:=Rat.mul_le_mul_of_nonneg_left h1 (Rat.le_of_lt (two_pow_pos a));grind
theorem IC(h:c.natAbs<2^s):Ab (c:Rat) (2^s):=by
 have h1:((2^s:Int):Rat)=2^s:=by rw [Rat.intCast_pow];rfl
 have h2:(2^s:Int)=((2^s:Nat):Int):=by rw [Int.natCast_pow];rfl
 constructor
 ·rw [<-h1,<-Rat.intCast_neg];exact Rat.intCast_le_intCast.2 aa
 ·rw [<-h1];exact Rat.intCast_le_intCast.2 aa
theorem adl(h:sz 2 c<=s):Ab (c:Rat) (2^s):=
 IC (Nat.lt_of_lt_of_le (iu (b:=2) ar c) (Nat.pow_le_pow_right ar h))
theorem BZ.ab(h:BZ s n a):∀c∈a.l,Ab (c:Rat) (2^s):=fun c hc=>adl (h.sz c hc)
theorem FG(s β:Nat):∀k,Cb (2^s) (2^β) k=2^(s+k*(β+2))
 | 0=>by simp [Cb]
 | k+1=>by rw [Cb,FG s β k,show s+(k+1)*(β+2)=s+k*(β+2)+β+1+1 by rw [Nat.add_mul];omega,Rat.pow_succ,Rat.pow_succ,nP _ β];grind
theorem BZ.ate(h:BZ s n a)(ht:Ab t (2^β)):Ab (e t a) (2^(s+n*(β+2))):=by have h1:=Ix (S:=2^s) (B:=2^β) (Rat.le_of_lt (two_pow_pos s)) (nQ β) ht a.l h.ab;rw [FG]at h1;exact h1.mono (kF (by have:=Nat.mul_le_mul_right (β+2) h.len;omega))
theorem Ot{s' N:Nat}{y:List Int}(sL:Bd 2 s' N y)(cy:Cn y)(hy:0<y.length):∀(n j s:Nat) (x:List Int),Cn x->x.length<n->Bd 2 s N x->x.length+1<=y.length+j ->
  ∃(m:Int) (q:List Int),0<m∧sz 2 m<=j*s'+1∧Bd 2 (s+j*(2*s'+N+2)) N q ∧ ∀t,m*V t x=V t q*V t y+V t (rq y n x)
 | 0,j,s,x,_,h,_,_=>by omega
 | n+1,j,s,x,cx,h,bx,hj=>by
  rw [rq]
  split
  ·exact⟨1,[],ar,Nat.le_trans (dp (k:=1) ar ar) aa,⟨av,fun c hc=>by cases hc⟩,fun t=>by simp [V]⟩
  ·rename_i h1;obtain⟨j,rfl⟩:∃i,j=i+1:=⟨j-1,aa⟩
   have hl:=sM hy (show y.length<=x.length by omega);have hb:=Lo sL bx hy (show y.length<=x.length by omega);obtain⟨m,q,hm,hms,hq,h4⟩:=Ot sL cy hy n j _ (Of y x) (Cn.fC _ _) aa hb aa;have uI:=cZ cy hy;have e1:(j+1)*s'=j*s'+s':=(by rw [Nat.add_mul];omega);have e2:(j+1)*(2*s'+N+2)=j*(2*s'+N+2)+(2*s'+N+2):=(by rw [Nat.add_mul];omega);have e3:j*s'<=j*(2*s'+N+2):=Nat.mul_le_mul_left _ aa;have sx:sz 2 (wM (lead y)*lead x)<=s:=(by refine Nat.le_trans (cY (b:=2) ar ?_) (fU bx);rw [Int.natAbs_mul];have:(wM (lead y)).natAbs=1:=(by unfold wM;split<;>rfl);rw [this,Nat.one_mul];exact Nat.le_refl _);have g9:=(Bd.aY (b:=2) ar (Bd.qo (b:=2) sx (x.length-y.length)) hms)
   have hlen:=bx.len
   refine⟨m*(lead y).natAbs,iw q (aY (qo (x.length-y.length) (wM (lead y)*lead x)) m),Int.mul_pos hm aa,?_,?_,fun t=>?_⟩
   ·have h8:sz 2 ((lead y).natAbs:Int)<=s':=Nat.le_trans (cY (b:=2) ar av) (fU sL);have:=ct (b:=2) ar hms h8;omega
   ·refine(Bd.iw (b:=2) (s:=s+(j+1)*(2*s'+N+2)-1) ar (hq.mono aa (Nat.le_refl _)) (g9.mono aa aa)).mono aa (Nat.le_refl _)
   ·have h5:=VF t y x;have h6:=h4 t;rw [rp,cM,nD];have:m*((lead y).natAbs:Int)*V t x=m*(((lead y).natAbs:Int)*V t x):=aG;rw [this,h5];grind
theorem agO(ha:BZ s n a)(hb:BZ s n b)(h0:b≠0):∃(m:Int) (q:ZX),0<m∧sz 2 m<=(n+1)*s+1∧BZ (s+(n+1)*(2*s+n+2)) n q∧((nx a b=0∧K m*a=q*b)∨(nx a b≠0 ∧ ∃k:Int,0<k∧K m*a=q*b-K k*nx a b)):=by
 obtain⟨KB,hN,_⟩:=sN (a:=a) h0;obtain⟨m,q,hm,hms,hq,e⟩:=Ot hb b.c (ZX.ax.1 h0) (a.l.length+1) (n+1) s a.l a.c aa ha (by have:=ha.len;have:=ZX.ax.1 h0;show a.l.length+1<=b.l.length+(n+1);omega);rw [<-KB]at e;have e1:K m*a=ZX.of q*b+rz a b:=ZX.ext fun t=>by rw [dN,uK,lP,dN,Li];exact e t
 refine⟨m,ZX.of q,hm,hms,Bd.cut hq,?_⟩
 by_cases hr:rz a b=0
 ·left;refine⟨?_,by rw [e1,hr];grind⟩;exact ZX.ext fun t=>by show V t (gL (jL (rz a b).l))=_;rw [hr];rfl
 ·right;have hrn:(rz a b).l ≠ []:=te hr;have hp:=Bv (rz a b).c hrn;have hg:=cO (rz a b).c hrn;have Sr:K (bK (rz a b).l:Int)*nx a b = -(rz a b):=ZX.ext fun t=>by rw [dN,uK,DI];show _*V t (gL (jL (rz a b).l))=_;rw [AG];have h2:V t (rz a b).l=V t (jL (rz a b).l)*(bK (rz a b).l:Int):=(by rw [<-dM,hp]);rw [h2];grind
  refine⟨fun h=>hr ?_,_,Int.natCast_pos.2 (Nat.pos_of_ne_zero hg),by rw [Sr,e1];grind⟩;rw [h]at Sr;have:(rz a b) = -(K (bK (rz a b).l:Int)*0):=by rw [Sr];grind
  rw [this];grind
theorem ID(hb:b≠0)(hg:gz a b=1)(hd:dv b a):∃c:Int,c≠0∧b=K c:=by have h1:=(ek a b).least hd (dv.refl b);rw [hg]at h1;have h2:=h1.j2 mJ;rw [ZX.tL]at h2;have:=ZX.ax.1 hb;exact ZX.j1 aa
def Gx(C n β:Nat):Nat:=C+(n+1)*(2*C+n+2)+n*(β+2)+2
theorem Ou{C n β:Nat}(hn:n<=20):∀(k s:Nat) (a b:ZX),ZX.N b<=k->b≠0->BZ s n a->BZ s n b->ym C n s a b->gz a b=1->StC (2^Gx C n β) (2^β) (a::um k a b) ∧ ∀p∈um k a b,BZ C n p
 | 0,s,a,b,hk,h0,_,_,_,_=>absurd hk (by have:=ZX.ax.1 h0;omega)
 | k+1,s,a,b,hk,h0,ha,hb,hp,hg=>by
  have hs:=hp.le;have hNb:=ZX.ax.1 h0;obtain⟨m,q,hm,hms,hq,hr⟩:=agO ha hb h0;rw [um,if_neg aa];have hbC:BZ C n b:=hb.mono aa (Nat.le_refl _)
  rcases hr with ⟨hz,e1⟩ | ⟨hz,kk,hkk,e1⟩
  ·rw [hz,j4];exact⟨ID h0 hg ⟨m,aa,q,e1⟩,fun p hp=>by simp only [mem_cons,not_mem_nil,or_false]at hp;subst hp;exact hbC⟩
  ·have hN:=Rb (a:=a) h0;have nW:gz b (nx a b)=1:=(by rw [<-hg];exact(Fw (c:=m) (k := -kk) (q:=q) aa aa (by rw [e1,show K (-kk) = -K kk from ZX.ext fun t=>by rw [uK,DI,uK]];grind)).symm);obtain⟨ih,ih2⟩:=Ou hn k _ b (nx a b) aa hz (hb.mono (Nat.le_add_right _ _) (Nat.le_refl _)) (Oj ha hb h0) (hp.step hN) nW
   refine⟨?_,fun p hp=>?_⟩
   ·obtain⟨k2,rfl⟩:∃k2,k=k2+1:=⟨k-1,by have:=ZX.ax.1 hz;omega⟩
    rw [um,if_neg (by have:=ZX.ax.1 hz;omega)]at ih |-;have c1:(n+1)*s<=(n+1)*(2*C+n+2):=Nat.mul_le_mul_left _ aa;have c2:(n+1)*(2*s+n+2)<=(n+1)*(2*C+n+2):=Nat.mul_le_mul_left _ aa
    refine⟨ih,m,kk,q,hm,hkk,e1,?_,fun t ht=>?_⟩
    ·have h1:=(adl hms).2;have h2:=kF (show (n+1)*s+1+1<=Gx C n β by unfold Gx;omega);rw [Rat.pow_succ]at h2;grind
    ·have h1:=(BZ.ate hq ht)
     have h2:=(Ab.mul (x:=2) (M:=2) ⟨ar,ar⟩ h1)
     refine h2.mono ?_;have h3:=kF (show s+(n+1)*(2*s+n+2)+n*(β+2)+1<=Gx C n β by unfold Gx;omega);rw [Rat.pow_succ]at h3;grind
   ·rcases mem_cons.1 hp with rfl | hp
    ·exact hbC
    ·exact ih2 p hp
theorem IE:∀(k:Nat) (a b:ZX),(um k a b).length<=ZX.N b
 | 0,a,b=>by simp [um]
 | k+1,a,b=>by
  rw [um]
  split
  ·simp
  ·rename_i h0;have:=Rb (a:=a) (ZX.ax.2 (Nat.pos_of_ne_zero h0));have:=IE k b (nx a b);simp only [length_cons];omega
theorem ant(ha:a≠0):∃c:Int,0<c∧a=K c*qf a:=by
 have hp:=Bv a.c (te ha);refine⟨(bK a.l:Int),Int.natCast_pos.2 (Nat.pos_of_ne_zero (cO a.c (te ha))),ZX.ext fun t=>?_⟩;rw [dN,uK];show _=_*V t (jL a.l);have h2:V t a.l=V t (jL a.l)*(bK a.l:Int):=by rw [<-dM,hp]
 rw [h2];grind
theorem aau(hn:n<=20)(hf:f≠0)(hb:BZ (s+5) n f)(hp:ym C n (s+5) f (qf (bQ f)))(bd:BZ (s+5) n (qf (bQ f)))(hg:gz f (bQ f)=1):StC (2^Gx C n β) (2^β) (aH f)∧(∀p∈aH f,BZ C n p)∧(aH f).length<=n+1 ∧ ∀g k,um (ZX.N f) f (qf (bQ f))=g::k -> ∃c:Int,0<c∧bQ f=K c*g:=by
 have hs:=hp.le;have hfC:BZ C n f:=hb.mono aa (Nat.le_refl _);have hNf:=hb.N;have h1:=mL f;have h2:ZX.N (qf (bQ f))<=ZX.N (bQ f):=lj _
 by_cases h0:bQ f=0
 ·have x9:qf (bQ f)=0:=by rw [h0];exact ZX.ext fun t=>rfl
  have hc:aH f = [f]:=by unfold aH;rw [x9,j4]
  rw [hc];have ZQ:ZX.N f<=1:=Classical.byContradiction fun h=>Fs (a:=f) aa h0;refine⟨ZX.j1 (by have:=ZX.ax.1 hf;omega),fun p hp=>by simp only [mem_cons,not_mem_nil,or_false]at hp;subst hp;exact hfC,av,fun g k h=>?_⟩;rw [x9,j4]at h;cases h
 ·obtain⟨c,hc,e⟩:=ant h0;have x9:qf (bQ f)≠0:=fun h=>h0 (by rw [e,h];grind);have nW:gz f (qf (bQ f))=1:=by rw [<-hg];refine Bt (dv.refl f) (dv.refl f) ⟨1,ar,K c,by rw [e];show(1:ZX)*_=_;grind⟩ ⟨c,aa,1,aG⟩
  obtain⟨g1,g2⟩:=Ou (β:=β) hn (ZX.N f) (s+5) f (qf (bQ f)) aa x9 hb bd hp nW
  refine⟨g1,fun p hp=>?_,?_,fun g k h=>?_⟩
  ·rcases mem_cons.1 hp with rfl | hp
   ·exact hfC
   ·exact g2 p hp
  ·have:=IE (ZX.N f) f (qf (bQ f));show(f::um (ZX.N f) f (qf (bQ f))).length<=_;simp only [length_cons];omega
  ·obtain⟨j,hj⟩:∃j,ZX.N f=j+1:=⟨ZX.N f-1,by have:=ZX.ax.1 hf;omega⟩
   rw [hj,um,if_neg (by have:=ZX.ax.1 x9;omega)]at h;cases h;exact⟨c,hc,e⟩
theorem Ov(μ:Nat):∀k,(2:Rat)^(μ*k)*yP (2^μ) k=1
 | 0=>by simp [yP]
 | k+1=>by have h1:=Ov μ k;have h2:yP (2^μ) (k+1)=yP (2^μ) k/2^μ:=rfl;have h3:yP ((2:Rat)^μ) k/2^μ*2^μ=yP (2^μ) k:=Rat.div_mul_cancel (Rat.ne_of_gt (two_pow_pos μ));rw [h2,Nat.mul_add,Nat.mul_one,nP];grind
def jb(C n β:Nat):Nat:=(n+1)*Gx C n β+C+n*(β+2)+1
theorem Ow(hn:n<=20)(hf:f≠0)(hb:BZ (s+5) n f)(hp:ym C n (s+5) f (qf (bQ f)))(bd:BZ (s+5) n (qf (bQ f)))(hg:gz f (bQ f)=1){δ:Rat}(hδ:δ*2^jb C n β<=1):XQ (aH f) f (2^β) δ:=by
 obtain⟨h1,h2,h3,h4⟩:=aau (β:=β) hn hf hb hp bd hg;have hM:(2:Rat)<=2^Gx C n β:=by have:=kF (show 1<=Gx C n β by unfold Gx;omega);rw [Rat.pow_one]at this;exact this
 refine StC.loc (Q:=2^(C+n*(β+2))) hM (nQ β) (Rat.le_of_lt (two_pow_pos C)) h1 (fun p hp=>⟨(h2 p hp).ab,?_⟩) h4 ?_
 ·rw [FG];exact kF (by have:=Nat.mul_le_mul_right (β+2) (h2 p hp).len;omega)
 ·have e1:=Ov (Gx C n β) (aH f).length;have hε:=vW hM (aH f).length;have h5:Gx C n β*(aH f).length+(C+n*(β+2))+1<=jb C n β:=by have:=Nat.mul_le_mul_left (Gx C n β) h3;rw [Nat.mul_comm (Gx C n β) (n+1)]at this;unfold jb;omega
  have h6:=kF h5;rw [Rat.pow_succ,nP]at h6;have hA:=two_pow_pos (Gx C n β*(aH f).length);have hB:=two_pow_pos (C+n*(β+2));show δ*2^(C+n*(β+2))<yP (2^Gx C n β) (aH f).length;generalize (2:Rat)^(Gx C n β*(aH f).length)=A,(2:Rat)^(C+n*(β+2))=Q,yP ((2:Rat)^Gx C n β) (aH f).length=ε,(2:Rat)^jb C n β=J at *
  by_cases h0:0<δ
  ·have h7:=Rat.mul_le_mul_of_nonneg_left h6 (Rat.le_of_lt h0);have h8:δ*Q*A<=1/2:=aG;refine Rat.lt_of_mul_lt_mul_right (c:=A) ?_ (Rat.le_of_lt hA);grind
  ·have h7:=Rat.mul_le_mul_of_nonneg_right (show δ<=0 by grind) (Rat.le_of_lt hB);grind
theorem FH:∀(l:List Int) (n:Nat) (p:Int),(l.foldl uw (n,p)).1=n+CI p l
 | [],n,p=>rfl
 | s::l,n,p=>by
  have h:uw (n,p) s=if s=0 then(n,p)else(if p≠0∧s≠p then n+1 else n,s):=rfl
  rw [foldl_cons,h];simp only [CI]
  split
  ·exact FH l n p
  ·split<;>rw [FH l]<;>omega
theorem LD(l:List Int):vr l=CI 0 l:=by rw [vr,FH];omega
theorem adm{n d:Int}{q:Rat}(h:(n:Rat)=q*d):∀x:List Int,((hm n d x).1:Rat)*d=qv q x*(d:Rat)^x.length∧((hm n d x).2:Rat)=(d:Rat)^x.length
 | []=>by
  refine⟨?_,?_⟩
  ·show((0:Int):Rat)*d=0*_;rw [Rat.intCast_zero,Rat.zero_mul,Rat.zero_mul]
  ·show((1:Int):Rat)=(d:Rat)^0;rw [Rat.intCast_one,Rat.pow_zero]
 | a::l=>by obtain⟨h1,h2⟩:=adm h l;have e:hm n d (a::l)=((hm n d l).1*n+a*(hm n d l).2,(hm n d l).2*d):=rfl;rw [e];simp only [qv,length_cons,Rat.pow_succ,Rat.intCast_add,Rat.intCast_mul];rw [h,h2];refine⟨?_,rfl⟩;have:(((hm n d l).1:Rat)*(q*d)+a*(d:Rat)^l.length)*d=((hm n d l).1:Rat)*d*(q*d)+a*((d:Rat)^l.length*d):=aG;rw [this,h1];grind
theorem Rn(v:Int):v.sign=bU (v:Rat):=by
 rcases Int.lt_trichotomy v 0 with h | h | h
 ·rw [Int.sign_eq_neg_one_of_neg h,fY (Rat.intCast_neg_iff.2 h)]
 ·subst h;decide
 ·rw [Int.sign_eq_one_of_pos h,eE (Rat.intCast_pos.2 h)]
theorem vZ(p:ZX)(q:Rat):Fy p.l q.num q.den=bU (e q p):=by
 have hd:(0:Rat)<((q.den:Int):Rat):=Rat.intCast_pos.2 (by have:=q.den_pos;omega)
 have hq:((q.num:Int):Rat)=q*((q.den:Int):Rat):=by
  have h1:q=(q.num:Rat)/((q.den:Int):Rat):=by rw [<-Rat.divInt_eq_div,Rat.num_divInt_den]
  have h2:=Rat.div_mul_cancel (a:=(q.num:Rat)) (Rat.ne_of_gt hd);rw [<-h1]at h2;exact h2.symm
 have h1:=(adm hq p.l).1;show(hm q.num q.den p.l).1.sign=bU (qv q p.l);rw [Rn];have h2:bU (((hm q.num q.den p.l).1:Rat)*((q.den:Int):Rat))=bU (qv q p.l*((q.den:Int):Rat)^p.l.length):=by rw [h1]
 rw [sP,sP,eE hd,eE (Rat.pow_pos hd)]at h2;omega
theorem BF(c:List ZX)(q:Rat):vr (nO c q.num q.den)=vt c q:=by rw [LD];unfold vt nO CJ;congr 1;exact map_congr_left fun p _=>vZ p q
theorem agP(c:List ZX):∃S:Rat,0<=S ∧ ∀p∈c,∀x∈p.l,Ab (x:Rat) S:=by
 induction c with
 | nil=>exact⟨0,Rat.le_refl,fun p hp=>by cases hp⟩
 | cons a c ih =>
  obtain⟨S,hS,h⟩:=ih;obtain⟨A,hA,ha⟩:=zA a.l;refine⟨S+A,aG,fun p hp x hx=>?_⟩
  rcases mem_cons.1 hp with rfl | hp
  ·exact(ha x hx).mono aG
  ·exact(h p hp x hx).mono aG
theorem V4(c:List ZX):∃X:Rat,1<=X∧(∀t,X<=t->vt c t=vr (Rg c)) ∧ ∀t,t <= -X->vt c t=vr (Rf c):=by
 obtain⟨S,hS,h⟩:=agP c
 refine⟨S+1,aG,fun t ht=>?_,fun t ht=>?_⟩
 ·rw [LD];unfold vt Rg CJ;congr 1;exact map_congr_left fun p hp=>(DR hS p.c (h p hp)).1 ht
 ·rw [LD];unfold vt Rf CJ;congr 1;exact map_congr_left fun p hp=>(DR hS p.c (h p hp)).2 ht
theorem j5(ha:a≠0):Nf (sq a) ∧ ∀p,ZX.od p->ZX.mu p (sq a)=min (ZX.mu p a) 1:=by
 have hA:=iM ha;unfold sq
 split
 ·rename_i h;refine⟨hA,fun p hp=>?_⟩;obtain⟨c,hc,rfl⟩:=ZX.j1 (x:=a) (by have:=ZX.ax.1 ha;omega);rw [N7 hp ha,ZX.Q4 hp hc];rfl
 ·exact⟨Vw hA,fun p hp=>by rw [Vx hA hp,N7 hp ha]⟩
theorem Ox(ha:a≠0):gz (sq a) (bQ (sq a))=1:=by obtain⟨h1,h2⟩:=j5 ha;refine Nf.rO (Oa h1.ne) Nf.one fun p hp=>?_;have e1:mu p (1:ZX)=0:=Q4 hp ar;have h3:=ac9 h1.ne hp;rw [h2 p hp]at h3;rw [e1];show mu p (gd (sq a))=0;rw [h3];omega
theorem pD(ha:a≠0):dv (sq a) a:=(BE ha).2.trans (DL a).2
theorem XQ.mono{L:List ZX}{f:ZX}{B C δ:Rat}(h:XQ L f B δ)(hc:C<=B):XQ L f C δ:=
 ⟨fun s t hs ht=>h.turns s t (hs.mono hc) (ht.mono hc),fun s t hs ht=>h.simple s t (hs.mono hc) (ht.mono hc)⟩
theorem LF(B:Rat):∃β:Nat,B<=2^β:=by
 have h1:=Rat.lt_floor_add_one B;refine⟨(B.floor+1).toNat,Rat.le_trans (Rat.le_of_lt h1) ?_⟩;have h2:((2^(B.floor+1).toNat:Int):Rat)=2^(B.floor+1).toNat:=by rw [Rat.intCast_pow];rfl
 rw [<-h2];refine Rat.intCast_le_intCast.2 ?_;have h3:(B.floor+1).toNat<2^(B.floor+1).toNat:=Nat.lt_two_pow_self;have h4:((2^(B.floor+1).toNat:Nat):Int)=2^(B.floor+1).toNat:=by rw [Int.natCast_pow];rfl
 omega
theorem Ch.FI(h:Ch s n f)(hf:f≠0)(hg:gz f (bQ f)=1):ur (aH f) f:=⟨fun B hB=>by have hn:=h.hn;obtain⟨β,hβ⟩:=LF B;have bd:BZ (s+5) n (bQ f):=h.bz.bQ aa;have hJ:=two_pow_pos (jb 4500000000 n β);have hJ1:(1:Rat)/2^jb 4500000000 n β*2^jb 4500000000 n β=1:=Rat.div_mul_cancel (Rat.ne_of_gt hJ);refine⟨1/2^jb 4500000000 n β,(Rat.lt_div_iff hJ).2 aG,?_⟩;exact XQ.mono (Ow hn hf (h.bz.mono aa (Nat.le_refl _)) h.pot (jc bd) hg (by rw [hJ1];exact Rat.le_refl)) hβ⟩
theorem p9.FI{s n:Nat}{a:ZX}(h:p9 s n a)(h0:a≠0)(qe:1<=n):ur (aH (sq a)) (sq a):=(h.ch h0 qe).FI (j5 h0).1.ne (Ox h0)
def du(t:Rat):ZX:=of [-t.num,(t.den:Int)]
theorem FJ(s t:Rat):e s (du t)=((t.den:Int):Rat)*(s-t):=by
 rw [du,DT,Rat.intCast_neg];have hd:(0:Rat)<((t.den:Int):Rat):=Rat.intCast_pos.2 (by have:=t.den_pos;omega)
 have hq:((t.num:Int):Rat)=t*((t.den:Int):Rat):=by
  have h1:t=(t.num:Rat)/((t.den:Int):Rat):=by rw [<-Rat.divInt_eq_div,Rat.num_divInt_den]
  have h2:=Rat.div_mul_cancel (a:=(t.num:Rat)) (Rat.ne_of_gt hd);rw [<-h1]at h2;exact h2.symm
 rw [hq];grind
theorem j6(t:Rat):ZX.N (du t)=2:=by have:aK [-t.num,(t.den:Int)] = [-t.num,(t.den:Int)]:=iJ (x:=(t.den:Int)) (by have:=t.den_nz;omega) [-t.num];show(aK [-t.num,(t.den:Int)]).length=2;rw [this];rfl
theorem IF(t:Rat):od (du t):=⟨by rw [j6];decide,fun d hd=>by have h0:du t≠0:=ZX.ax.2 (by rw [j6];decide);have h1:=hd.j2 h0;have h2:=ZX.ax.1 (hd.ne h0);rw [j6]at h1 |-;omega⟩
theorem anu(h:dv b a)(hb:e t b=0):e t a=0:=by
 obtain⟨c,hc,q,he⟩:=h;have h1:(c:Rat)*e t a=e t q*e t b:=by rw [<-wN (t:=t) c,<-iC,he,iC]
 rw [hb,Rat.mul_zero]at h1;exact(Rat.mul_eq_zero.1 h1).resolve_left fun h=>hc (Rat.intCast_eq_zero_iff.1 h)
theorem FK:e t a=0↔dv (du t) a:=by
 have h0:du t≠0:=ZX.ax.2 (by rw [j6];decide);have hz:e t (du t)=0:=by rw [FJ];grind
 refine⟨fun ha=>?_,fun h=>anu h hz⟩;obtain⟨c,hc,q,r,he,hN⟩:=ZX.Vl a h0;have h1:e t (K c*a)=e t q*e t (du t)+e t r:=by rw [he,adi,iC]
 rw [iC,ha,hz]at h1;have hr:e t r=0:=aG;have oq:r=0:=Classical.byContradiction fun oq=>by rw [j6]at hN;obtain⟨k,hk,rfl⟩:=ZX.j1 (x:=r) (by have:=ZX.ax.1 oq;omega);rw [wN]at hr;exact hk (Rat.intCast_eq_zero_iff.1 hr)
 exact⟨c,hc,q,by rw [he,oq];grind⟩
theorem Oy(ha:a≠0):e t (sq a)=0↔e t a=0:=by
 refine⟨anu (pD ha),fun h=>?_⟩;have hp:=IF t;have h1:=FK.1 h;obtain⟨g1,g2⟩:=j5 ha;have p1:(du t)^1=du t:=by rw [pow_succ',dX];grind
 have h2:1<=mu (du t) a:=(ja hp ha).2 (by rw [p1];exact h1);have h3:1<=mu (du t) (sq a):=by rw [g2 _ hp];omega
 have h4:=(ja hp g1.ne).1 h3;rw [p1]at h4;exact FK.2 h4
theorem Ro(h:ur L f){b:Rat}(hb:∀a,Bg a b f):vr (Rf L)=vt L b:=by
 obtain⟨X,hX,_,h2⟩:=V4 L
 by_cases wW:b <= -X
 ·exact(h2 b wW).symm
 ·rw [<-h2 (-X) Rat.le_refl];exact h.bg (hb (-X)) (Rat.not_le.1 wW)
theorem LG(h:ur L f){a:Rat}(ha:∀b,Bg a b f):vr (Rg L)=vt L a:=by
 obtain⟨X,hX,h1,_⟩:=V4 L
 by_cases wW:X<=a
 ·exact(h1 a wW).symm
 ·rw [<-h1 X Rat.le_refl];exact(h.bg (ha X) (Rat.not_le.1 wW)).symm
theorem jF(p q:Rat):(dc (p.num*q.den) (q.num*p.den)<0)↔p<q:=by rw [kZ,Rat.lt_iff]
theorem V5(C:List ZX)(q:Rat):vt C q<=C.length:=by have:=BD (nO C q.num q.den);rw [BF]at this;simpa [nO]using this
theorem BG{n:Int}(h:d≠0):dw n d=(n:Rat)/d:=by rw [dw,if_neg h,Rat.divInt_eq_div]
theorem FL{n:Int}(h:d≠0)(e:(n:Rat)=q*d):dw n d=q:=by have hd:(d:Rat)≠0:=fun h0=>h (Rat.intCast_eq_zero_iff.1 h0);rw [BG h,e,Rat.mul_div_cancel hd]
theorem we(q:Rat):((q.num:Int):Rat)=q*((q.den:Int):Rat):=by
 have hd:(0:Rat)<((q.den:Int):Rat):=Rat.intCast_pos.2 (by have:=q.den_pos;omega);have h1:q=(q.num:Rat)/((q.den:Int):Rat):=by rw [<-Rat.divInt_eq_div,Rat.num_divInt_den]
 have h2:=Rat.div_mul_cancel (a:=(q.num:Rat)) (Rat.ne_of_gt hd);rw [<-h1]at h2;exact h2.symm
theorem aav{n:Int}(hn:sz LL n<1099511627770)(hd:sz LL d<1099511627770)(h0:d≠0):aj 146 [I n,I d] (.cW [RT (dw n d),ae 0]):=by
 have n1:=E3 (x:=d) (by show _<_;omega);have n2:=E3 (x:=n) (by show _<_;omega);have z1:=DU d;have l1:=pC hn hd h0;rw [show decide (d=0)=false from decide_eq_false h0]at z1;show aj _ _ (.cW [T2 (dw n d).num (dw n d).den,_])
 replace l1:aj 169 [I n,I d] (T2 (dw n d).num (dw n d).den):=l1
 generalize (dw n d).num=rn,((dw n d).den:Int)=rd at *;apply bL [(0,I n),(1,I d)] Tryz.func146;apply fB [2,3,4];apply gT n1 [2,3,4]
 apply fH z1 [2,3,4,9]<;>intro h
 ·simp at h
 apply W.skip;apply W.sd;simp (maxSteps:=4000000) (disch:=omega) [gw];apply cT n2;simp (maxSteps:=4000000) (disch:=omega) [gw];apply cT l1;simp (maxSteps:=4000000) (disch:=omega) [gw]
 (try (refine aM (of_decide_eq_true bX) ?_));(try simp (maxSteps:=4000000) (disch:=omega) [gw]);(repeat rw [if_pos bX]);(try simp (maxSteps:=4000000) (disch:=omega) [gw])
 exact qi [4,5]
theorem agQ(p q:Rat):dw (p.num*q.den+q.num*p.den) (p.den*q.den*2)=(p+q)/2:=by
 have h1:((p.den:Int)*q.den*2)≠0:=by have:=p.den_nz;have:=q.den_nz;refine Int.mul_ne_zero (Int.mul_ne_zero ?_ ?_) ar<;>omega
 refine FL h1 ?_;rw [Rat.intCast_add,Rat.intCast_mul,Rat.intCast_mul,Rat.intCast_mul,Rat.intCast_mul,we p,we q];have h2:(p+q)/2*2=p+q:=Rat.div_mul_cancel ar;show _=(p+q)/2*(((p.den:Int):Rat)*((q.den:Int):Rat)*2);generalize (p+q)/2=m at *;grind
theorem IH(hp:sz LL p.num<=k∧sz LL (p.den:Int)<=k)(hq:sz LL q.num<=k∧sz LL (q.den:Int)<=k)(hk:k<=300000000000):aj 91 [RT p,RT q] (RT ((p+q)/2)):=by
 have c1:=xv hp.1 hp.2 hq.1 hq.2 aa (aX p) (aX q) hp hq;have g1:=ct (b:=LL) fV hp.1 hq.2;have g2:=ct (b:=LL) fV hq.1 hp.2;have g3:=ct (b:=LL) fV hp.2 hq.2;have s2:sz LL 2<=1:=dp (k:=1) fV ar;have g4:=ct (b:=LL) fV g3 s2;have g5:=mA (b:=LL) fV (Nat.le_trans g1 (show k+k<=k+k from Nat.le_refl _)) (Nat.le_trans g2 (show k+k<=k+k from Nat.le_refl _));have a1:=Nd (x:=p.num*q.den) (y:=q.num*p.den) (by show _<_;omega) (by show _<_;omega);have o1:=AU 2 ar ar;have m1:=vC (x:=(p.den:Int)*q.den) (y:=2) (by show _<_;omega) (by show _<_;omega);have h1:((p.den:Int)*q.den*2)≠0:=by have:=p.den_nz;have:=q.den_nz;refine Int.mul_ne_zero (Int.mul_ne_zero ?_ ?_) ar<;>omega
 have l1:=pC (n:=p.num*q.den+q.num*p.den) (d:=p.den*q.den*2) aa aa h1;rw [agQ]at l1;show aj _ [T2 p.num p.den,T2 q.num q.den] (T2 ((p+q)/2).num ((p+q)/2).den)
 replace l1:aj 169 [I (p.num*q.den+q.num*p.den),I (p.den*q.den*2)] (T2 ((p+q)/2).num ((p+q)/2).den):=l1
 clear g1 g2 g3 g4 g5 h1 hp hq;generalize ((p+q)/2).num=rn,(((p+q)/2).den:Int)=rd,p.num*(q.den:Int)+q.num*p.den=x4,(p.den:Int)*q.den*2=x5 at *;generalize p.num*(q.den:Int)=x1,q.num*(p.den:Int)=x2,(p.den:Int)*(q.den:Int)=x3 at *;generalize p.num=pn,(p.den:Int)=pd,q.num=qn,(q.den:Int)=qd at *;apply bL [(0,T2 pn pd),(1,T2 qn qd)] Tryz.func91;apply fk [2,3,4] c1 [4,5,6,7];apply W.sd;simp (maxSteps:=4000000) (disch:=omega) [gw];apply cT a1;simp (maxSteps:=4000000) (disch:=omega) [gw];apply cT o1;simp (maxSteps:=4000000) (disch:=omega) [gw];apply cT m1;simp (maxSteps:=4000000) (disch:=omega) [gw];apply cT l1;simp (maxSteps:=4000000) (disch:=omega) [gw]
 (try (refine aM (of_decide_eq_true bX) ?_));(try simp (maxSteps:=4000000) (disch:=omega) [gw]);(repeat rw [if_pos bX]);(try simp (maxSteps:=4000000) (disch:=omega) [gw])
 exact qi [4]
theorem Rp(hp:sz LL p.num<1099511627770∧sz LL (p.den:Int)<1099511627770):aj 73 [RT p] (RT (-p)):=by
 have n1:=mm hp.1 hp.2;rw [aX]at n1;have n2:=Uh (x:=p.num) (by show _<_;omega)
 replace n1:aj 147 [T2 p.num p.den] (T2 p.num p.den):=n1
 show aj _ [T2 p.num p.den] (T2 (-p).num (-p).den);rw [Rat.neg_num,Rat.neg_den];generalize -p.num=rn at *;generalize p.num=pn,(p.den:Int)=pd at *;apply bL [(0,T2 pn pd)] Tryz.func73;apply fk [1,2] n1 [1,2];apply gT n2 [1,2];exact dS [2]
theorem II(hp:ZR YY p)(hq:ZR YY q)(hs:ZR YY (p+q)):aj 204 [RR p,RR q] (RR ((p+q)/2)):=by
 have a1:=vF p q hp hq;have o1:=lY 1 2 ar ar;have m1:=A7 (p+q) (dw 1 2) hs ⟨ar,ar⟩;have e:(p+q)*dw 1 2=(p+q)/2:=by rw [show dw 1 2=(1:Rat)/2 by rw [BG ar];rfl];grind
 rw [e]at m1;rw [bW]at *;rw [bW q,bW (p+q),bW (dw 1 2)]at *;generalize (p+q)/2=m at *;generalize p+q=s,dw 1 2=hf,p.num=pn,(p.den:Int)=pd,q.num=qn,(q.den:Int)=qd at *;generalize s.num=sn,(s.den:Int)=sd,hf.num=fn,(hf.den:Int)=fd at *;rw [bW]at *;generalize m.num=mn,(m.den:Int)=md at *;apply bL [(0,R2 pn pd),(1,R2 qn qd)] Tryz.func204;apply aR [2,3,4];apply lE a1;apply eO o1 m1;exact eK [4]
theorem V6(h:sz LL d<4294967296):aj 156 [I d] (RI d):=by have h1:=Dq (decide (d<0)) (aI LL d.natAbs) (by have:sz LL d=(aI LL d.natAbs).length:=rfl;omega) (fy fV _);rw [show iv (decide (d<0)) (aI LL d.natAbs)=d from Hu d]at h1;exact h1
theorem Rq(hp:sz LL p.num<4294967296∧sz LL (p.den:Int)<4294967296)(hY:Y p.num∧Y (p.den:Int)):aj 82 [RT p] (RR p):=by
 have f1:=V6 hp.1;have f2:=V6 hp.2;have m1:=jX p.num p.den hY.1 hY.2;rw [aX,bW]at m1;rw [bW];show aj _ [T2 p.num p.den] _
 replace f1:aj 156 [I p.num] (RI p.num):=f1
 replace f2:aj 156 [I (p.den:Int)] (RI (p.den:Int)):=f2
 generalize p.num=pn,(p.den:Int)=pd at *;apply bL [(0,T2 pn pd)] Tryz.func82;apply gr [1,2];simp (maxSteps:=4000000) (disch:=omega) [gw];apply cT f1;simp (maxSteps:=4000000) (disch:=omega) [gw];apply cT f2;simp (maxSteps:=4000000) (disch:=omega) [gw];apply cT m1;simp (maxSteps:=4000000) (disch:=omega) [gw]
 (try (refine aM (of_decide_eq_true bX) ?_));(try simp (maxSteps:=4000000) (disch:=omega) [gw]);(repeat rw [if_pos bX]);(try simp (maxSteps:=4000000) (disch:=omega) [gw])
 exact qi [2]
theorem adn{x:Int}(hx:Sz x):aj 143 [I x] (I (x.natAbs:Int)):=by have h1:=UX (decide (x<0)) (aI LL x.natAbs) hx.Nc;rw [show V 4294967296 (aI LL x.natAbs)=(x.natAbs:Int)from jT fV _]at h1;exact h1
def kG(x:List Int):Nat->Int
 | 0=>0
 | i+1=>if kG x i<((nth x i).natAbs:Int)then((nth x i).natAbs:Int)else kG x i
theorem V7(x:List Int):∀i,0<=kG x i
 | 0=>Int.le_refl _
 | i+1=>by have:=V7 x i;rw [kG];split<;>omega
theorem V8(x:List Int):∀i k,k<i->((nth x k).natAbs:Int)<=kG x i
 | 0,k,h=>by omega
 | i+1,k,h=>by
  rw [kG]
  by_cases hk:k=i
  ·subst hk;split<;>omega
  ·have:=V8 x i k aa;split<;>omega
theorem uz{b s n:Nat}{x:List Int}(h:Bd b s n x):∀i,Pm.sz b (kG x i)<=s
 | 0=>by show Pm.sz b 0<=s;rw [jV];omega
 | i+1=>by
  have ih:=uz h i;have h1:=h.nth i;have h2:Pm.sz b ((nth x i).natAbs:Int)=Pm.sz b (nth x i):=by unfold Pm.sz;rw [Int.natAbs_natCast]
  rw [kG];split
  ·rw [h2];exact h1
  ·exact ih
def gp(x:List Int):Rat:=dw (((lead x).natAbs:Int)+kG x (x.length-1)) ((lead x).natAbs:Int)
theorem LH{g:α->List PV}{l:List α}(hN:aj 64 [aw g l] (Po x))(cx:Cn x)(hx:x ≠ [])(b:Bd LL s n x)(hs:s<500000000000)(hn:n<500000000000):aj 71 [aw g l] (.cW [RT (gp x),ae 0]):=by
 have n7:0<x.length:=length_pos_iff.2 hx;have hlen:=b.len;have uI:=cZ cx n7;have L1:=kv (PB.of b aa aa) cx;have hld:=fU b;have A1:=adn (x:=lead x) (Nat.lt_of_le_of_lt hld aa);have LI:sz LL ((lead x).natAbs:Int)<=s:=Nat.le_trans (cY fV av) hld;have hm:=uz b (x.length-1);have S1:=Nd (x:=((lead x).natAbs:Int)) (y:=kG x (x.length-1)) (Nat.lt_of_le_of_lt LI aa) (Nat.lt_of_le_of_lt hm aa);have atf:=mA (b:=LL) fV LI hm;have M1:=aav (n:=((lead x).natAbs:Int)+kG x (x.length-1)) (d:=((lead x).natAbs:Int)) aa aa aa
 replace M1:aj 146 [I (((lead x).natAbs:Int)+kG x (x.length-1)),I ((lead x).natAbs:Int)] (.cW [T2 (gp x).num (gp x).den,ae 0]):=M1
 show aj _ _ (.cW [T2 (gp x).num (gp x).den,_]);have C1:∀i,i<x.length->aj 143 [I (nth x i)] (I ((nth x i).natAbs:Int))∧aj 144 [I ((nth x i).natAbs:Int),I (kG x i)] (ae (dc ((nth x i).natAbs:Int) (kG x i))):=fun i hi=>by have h1:=b.nth i;have h2:sz LL ((nth x i).natAbs:Int)<=s:=Nat.le_trans (cY fV av) h1;exact⟨adn (Nat.lt_of_le_of_lt h1 aa),Ng (Nat.lt_of_le_of_lt h2 aa) (Nat.lt_of_le_of_lt (uz b i) aa)⟩
 have Mz:∀i,kG x (i+1)=if 0<dc ((nth x i).natAbs:Int) (kG x i)then((nth x i).natAbs:Int)else kG x i:=fun i=>by
  rw [kG]
  by_cases h:kG x i<((nth x i).natAbs:Int)
  ·rw [if_pos h,if_pos (k8.2 h)]
  ·rw [if_neg h,if_neg (fun q=>h (k8.1 q))]
 have h0:kG x 0=0:=rfl;clear hm atf LI hld;generalize (gp x).num=rn,((gp x).den:Int)=rd,((lead x).natAbs:Int)+kG x (x.length-1)=sm at *;generalize ((lead x).natAbs:Int)=la,kG x=mf at *;have e1:((x.length:Int)-1).toNat=x.length-1:=aa;have e2:(x.length:Int)-1=((x.length-1:Nat):Int):=aa;apply bL [(0,aw g l)] Tryz.func71;apply fk [0,2] hN [0,2]
 apply cS [0,2,13]<;>intro h
 ·simp at h;exact absurd h hx
 apply W.skip;apply aR [0,2,4];refine W.row (id:=4) (els:=[[.bool false, .nil]]) [[.bool (decide ((0:Int)<0)),us (aI LL (0:Int).natAbs)]] (by simp;first | exact⟨rfl,rfl,rfl⟩ | exact⟨rfl,rfl⟩ | rfl) ⟨⟨.inl rfl, .inr ⟨rfl,rfl⟩,trivial⟩,trivial⟩ ?_;apply W.seq;apply W.sr;simp (disch:=omega) [gw,e1,e2];apply c9 [0,2,4,19,20,21];apply W.block
 refine W.aO (fun k σ=>∃(v2 e2 v4 e4 i:Nat),aQ σ [(0,Po x),(2, .ptr 2 v2 0 0),(4, .ptr 4 v4 0 0),(19,aw ie (x.take (x.length-1))),(20,ae ((x.length-1:Nat):Int)),(21,ae i)] fun rows clk=>i+k=x.length-1 ∧
  rows 2=some ⟨v2,e2,4,[[.bool false, .nil, .bool false, .nil]]⟩∧rows 4=some ⟨v4,e4,2,[[.bool (decide (mf i<0)),us (aI LL (mf i).natAbs)]]⟩) (x.length-1) ?_ ?_
 ·exact⟨_, .refl,_,_,_,_,0,_,_,rfl,aa,by simp;(first | exact⟨rfl,rfl⟩ | rfl),by rw [h0];simp;(first | exact⟨rfl,rfl⟩ | rfl)⟩
 rintro k _ ⟨v2,e2,v4,e4,i,rows,clk,rfl,qu,bE,cN⟩
 apply ef [0,2,4,19,20,21,22]<;>intro h
 ·have hi:i<x.length-1:=by simp at h;omega
  have GC:i<x.length:=aa;have wH:nth (x.take (x.length-1)) i=nth x i:=by unfold nth;rw [getElem?_take_of_lt hi]
  obtain⟨c1,c2⟩:=C1 i GC;have hm:=Mz i;generalize dc ((nth x i).natAbs:Int) (mf i)=cv at *;generalize ((nth x i).natAbs:Int)=ab at *;generalize nth x i=xi at *;apply W.skip
  refine W.dh (fun σ=>∃(v2 e2 v4 e4:Nat),aQ σ [(0,Po x),(2, .ptr 2 v2 0 0),(4, .ptr 4 v4 0 0),(19,aw ie (x.take (x.length-1))),(20,ae ((x.length-1:Nat):Int)),(21,ae i)] fun rows clk =>
   rows 2=some ⟨v2,e2,4,[[.bool false, .nil, .bool false, .nil]]⟩∧rows 4=some ⟨v4,e4,2,[[.bool (decide (mf (i+1)<0)),us (aI LL (mf (i+1)).natAbs)]]⟩) ?_ ?_
  ·apply oD hi wH [0,2,4,6,19,20,21];apply gT c1 [0,2,4,7,19,20,21];apply lF cN c2
   apply kt [0,2,4,7,19,20,21,30]<;>intro h
   ·have h:0<cv:=au h;rw [if_pos h]at hm;refine q9 cN fun K hK=>?_;exact hK _ ⟨_,ak _ [0,2,4,19,20,21],_,_,_,_,_,_,rfl,by simp [bE];exact rfl,by simp [hm];exact rfl⟩
   ·have h:¬0<cv:=au h;rw [if_neg h]at hm;apply W.skip;exact⟨_,ak _ [0,2,4,19,20,21],_,_,_,_,_,_,rfl,by simp [bE];exact rfl,by simp [hm,cN];exact rfl⟩
  rintro _ ⟨v2,e2,v4,e4,rows,clk,rfl,bE,cN⟩;refine bB fun K hK=>?_;refine hK _ ⟨k-1,_,ak _ [0,2,4,19,20,21],aa,_,_,_,_,i+1,_,_,rfl,aa,bE,cN⟩
 ·have hi:i=x.length-1:=by simp at h;omega
  subst hi;apply (iq);apply eO L1 A1;apply bM [2,4,8];apply W.sd;apply iI cN S1;simp (maxSteps:=4000000) (disch:=omega) [gw];apply cT M1;apply dB bE
  (try (refine aM (of_decide_eq_true bX) ?_));(try simp (maxSteps:=4000000) (disch:=omega) [gw,bE]);(repeat rw [if_pos bX]);(try simp (maxSteps:=4000000) (disch:=omega) [gw,bE])
  exact qi [2,3]
theorem xy(cx:Cn x)(hx:x ≠ []):gp x=1+((kG x (x.length-1):Int):Rat)/(((lead x).natAbs:Int):Rat):=by have uI:=cZ cx (length_pos_iff.2 hx);have h1:((lead x).natAbs:Int)≠0:=aa;have h2:(((lead x).natAbs:Int):Rat)≠0:=fun h=>h1 (Rat.intCast_eq_zero_iff.1 h);refine FL h1 ?_;rw [Rat.intCast_add];have h3:=Rat.div_mul_cancel (a:=((kG x (x.length-1):Int):Rat)) h2;generalize ((kG x (x.length-1):Int):Rat)/(((lead x).natAbs:Int):Rat)=w at *;grind
theorem agR{u v:Int}(hu:sz 2 u<=k)(hv:sz 2 v<=k)(h0:v≠0):ZR k ((u:Rat)/(v:Rat)):=by
 rw [<-BG h0];have e:∀w:Int,sz 2 (-w)=sz 2 w:=fun w=>by unfold sz;rw [Int.natAbs_neg]
 constructor
 ·rw [o9 u v h0];refine Nat.le_trans (cY (b:=2) ar (Int.natAbs_ediv_le_natAbs _ _)) ?_
  split
  ·rw [e];exact hu
  ·exact hu
 ·rw [pg u v h0];refine Nat.le_trans (cY (b:=2) ar (Int.natAbs_ediv_le_natAbs _ _)) ?_
  split
  ·rw [e];exact hv
  ·exact hv
theorem LJ(cx:Cn x)(hx:x ≠ [])(b:Bd 2 s n x)(ni:1<=s)(hs:s<=1000000000)(hn:n<1099511627776):aj 183 [PI x] (RR (gp x)):=by
 have n7:0<x.length:=length_pos_iff.2 hx;have hlen:=b.len;have uI:=cZ cx n7;have hY:YY=137438953472:=rfl;have hO:=lY 1 1 ar ar;rw [show dw 1 1=1 from ar]at hO;have Ey:x.length<2->gp x=1:=fun h=>by rw [xy cx hx,show x.length-1=0 by omega];show 1+((0:Int):Rat)/_=1;rw [Rat.intCast_zero,Rat.div_def,Rat.zero_mul,Rat.add_zero]
 have hld:=fU b;have LI:sz 2 ((lead x).natAbs:Int)<=s:=Nat.le_trans (cY (b:=2) ar av) hld;have hm:=uz b (x.length-1);have Z1:∀ {v:Int},sz 2 v<=s->ZR YY ((v:Int):Rat):=fun h=>n9 aa ar;have Q1:=A8 ((kG x (x.length-1):Int):Rat) (((lead x).natAbs:Int):Rat) (Z1 hm) (Z1 LI) (fun h=>by have:=Rat.intCast_eq_zero_iff.1 h;omega);have hz:=agR (k:=YY) (Nat.le_trans hm aa) (Nat.le_trans LI aa) (by omega:((lead x).natAbs:Int)≠0);have A1:=vF 1 (((kG x (x.length-1):Int):Rat)/(((lead x).natAbs:Int):Rat)) ⟨ar,ar⟩ hz;rw [<-xy cx hx]at A1;have C1:∀i,i<x.length->aj 14 [R2 ((nth x i).natAbs:Int) 1,R2 (kG x i) 1] (ae (dc ((nth x i).natAbs:Int) (kG x i))):=fun i hi=>by have h1:=b.nth i;have h2:sz 2 ((nth x i).natAbs:Int)<=s:=Nat.le_trans (cY (b:=2) ar av) h1;have h3:=uz b i;have:=xt ((nth x i).natAbs:Int) 1 (kG x i) 1 aa ar aa ar;rwa [Int.mul_one,Int.mul_one]at this
 have Mz:∀i,kG x (i+1)=if 0<dc ((nth x i).natAbs:Int) (kG x i)then((nth x i).natAbs:Int)else kG x i:=fun i=>by
  rw [kG]
  by_cases h:kG x i<((nth x i).natAbs:Int)
  ·rw [if_pos h,if_pos (k8.2 h)]
  ·rw [if_neg h,if_neg (fun q=>h (k8.1 q))]
 have h0:kG x 0=0:=rfl;have lT:=oK;have anv:nth x (x.length-1)=lead x:=rfl;have hd:∀v:Int,decide (((v.natAbs:Int))<0)=false:=fun v=>decide_eq_false aa;have hna:∀v:Int,((v.natAbs:Int)).natAbs=v.natAbs:=fun v=>Int.natAbs_natCast _;clear hm hld LI hz Z1;rw [show RR ((kG x (x.length-1):Int):Rat) = .ag (ri (kG x (x.length-1)))from congrArg PV.ag (fP _),show RR (((lead x).natAbs:Int):Rat) = .ag (ri ((lead x).natAbs:Int))from congrArg PV.ag (fP _)]at Q1;rw [show RR (1:Rat) = .ag (ri 1)from congrArg PV.ag (fP 1)]at A1 hO;generalize ((kG x (x.length-1):Int):Rat)/(((lead x).natAbs:Int):Rat)=qq at *;generalize hbd:gp x=B at *;simp only [bW]at Q1 A1 |-;have wW:x.length<2->R2 B.num (B.den:Int) = .ag (ri 1):=fun h=>by rw [Ey h];rfl
 generalize B.num=bn,(B.den:Int)=bd,qq.num=qn,(qq.den:Int)=qd at *;generalize hmf:kG x=mf at *;have e1:((x.length:Int)-1).toNat=x.length-1:=aa;apply bL [(0,PI x)] Tryz.func183;apply fk [0,2] lT [0,2,3];apply dU [0,2,3,4]
 refine W.aO (fun k σ=>∃(v2 e2 v3 e3 i:Nat),aQ σ [(0,PI x),(2, .ptr 2 v2 0 0),(3, .ptr 3 v3 0 0),(4,ae i)] fun rows clk=>i+k=x.length-1 ∧
  rows 2=some ⟨v2,e2,4,[[.nil, .bool false, .nil, .bool false]]⟩∧rows 3=some ⟨v3,e3,4,[[aw ay (aI DD (mf i).natAbs), .bool (decide (mf i<0)),aw ay (aI DD 1), .bool false]]⟩) (x.length-1) ?_ ?_
 ·exact⟨_, .refl,_,_,_,_,0,_,_,rfl,aa,by simp;(first | exact⟨rfl,rfl⟩ | rfl),by rw [h0];simp;(first | exact⟨rfl,rfl⟩ | rfl)⟩
 rintro k _ ⟨v2,e2,v3,e3,i,rows,clk,rfl,qu,bE,bA⟩
 apply cS [0,2,3,4,12]<;>intro h
 ·have hi:i<x.length-1:=by simp at h;omega
  have GC:i<x.length:=aa;have c1:=C1 i GC;have hm:=Mz i;have E5:=hd (nth x i);have qe:=hna (nth x i);simp only [E5,qe,Fz,R2]at c1;generalize dc ((nth x i).natAbs:Int) (mf i)=cv at *;apply W.skip
  refine W.dh (fun σ=>∃(v2 e2 v3 e3:Nat),aQ σ [(0,PI x),(2, .ptr 2 v2 0 0),(3, .ptr 3 v3 0 0),(4,ae i)] fun rows clk =>
   rows 2=some ⟨v2,e2,4,[[.nil, .bool false, .nil, .bool false]]⟩∧rows 3=some ⟨v3,e3,4,[[aw ay (aI DD (mf (i+1)).natAbs), .bool (decide (mf (i+1)<0)),aw ay (aI DD 1), .bool false]]⟩) ?_ ?_
  ·apply fj GC [0,2,3,4,5];apply aR [0,2,3,4,5];apply lF bA c1
   apply kt [0,2,3,4,5,24]<;>intro h
   ·have h:0<cv:=au h;rw [if_pos h]at hm;refine q9 bA fun K hK=>?_;exact hK _ ⟨_,ak _ [0,2,3,4],_,_,_,_,_,_,rfl,by simp [bE];exact rfl,by simp [hm,E5,qe];exact rfl⟩
   ·have h:¬0<cv:=au h;rw [if_neg h]at hm;apply W.skip;exact⟨_,ak _ [0,2,3,4],_,_,_,_,_,_,rfl,by simp [bE];exact rfl,by simp [hm,bA];exact rfl⟩
  rintro _ ⟨v2,e2,v3,e3,rows,clk,rfl,bE,bA⟩;refine bB fun K hK=>?_;refine hK _ ⟨k-1,_,ak _ [0,2,3,4],aa,_,_,_,_,i+1,_,_,rfl,aa,bE,bA⟩
 ·have hi:i=x.length-1:=by simp at h;omega
  subst hi;apply (ey)
  apply cS [0,2,3,28]<;>intro h
  ·have h:x.length<2:=(by simp at h;omega);rw [wW h];apply lE hO;exact EU bE [2]
  ·have h:¬x.length<2:=(by simp at h;omega);have GC:x.length-1<x.length:=aa;have E5:=hd (lead x);have qe:=hna (lead x);simp only [R2,UC,Fz,E5,qe]at Q1 A1;apply W.skip;apply W.sr;simp (disch:=omega) [gw,GC,e1,anv];apply c9 [2,3,6];apply gr [2,3,6];apply jK hO;apply iI bA Q1;apply jK A1;apply dB bE
   (try (refine aM (of_decide_eq_true bX) ?_));(try simp (maxSteps:=4000000) (disch:=omega) [gw,bE]);(repeat rw [if_pos bX]);(try simp (maxSteps:=4000000) (disch:=omega) [gw,bE])
   exact qi [2]
end Go.Proofs.YtiobceocpabjdaaGreat
namespace Pm
variable {a b:ZX}{n:Nat}
theorem V9:∀(n:Nat) (f:Nat->Nat),(∀k,k<=n->f k<n) -> ∃i j,i<j∧j<=n∧f i=f j
 | 0,f,h=>absurd (h 0 (Nat.le_refl _)) aa
 | n+1,f,h=>by
  by_cases hx:∃i,i<=n∧f i=f (n+1)
  ·obtain⟨i,hi,e⟩:=hx;exact⟨i,n+1,aa,Nat.le_refl _,e⟩
  ·have km:∀i,i<=n->f i≠f (n+1):=fun i hi e=>hx ⟨i,hi,e⟩;have hm:=h (n+1) (Nat.le_refl _);obtain⟨i,j,qy,hj,e⟩:=V9 n (fun k=>if f k=n then f (n+1)else f k) (fun k hk=>by have h1:=h k aa;have h2:=km k hk;show(if f k=n then f (n+1)else f k)<n;split<;>omega);refine⟨i,j,qy,aa,?_⟩;have h1:=km i aa;have h2:=km j hj;have e':(if f i=n then f (n+1)else f i)=(if f j=n then f (n+1)else f j):=e;split at e'<;>split at e'<;>omega
def Cc(b:Nat):Nat->Nat->List Int
 | 0,_=>[]
 | n+1,k=>((k%b:Nat):Int)::Cc b n (k/b)
theorem wi(b:Nat):∀n k,(Cc b n k).length=n
 | 0,_=>rfl
 | n+1,k=>by rw [Cc,List.length_cons,wi b n]
theorem FM{b:Nat}(hb:0<b):∀n k,∀c∈Cc b n k,0<=c∧c<b
 | 0,_,c,h=>by cases h
 | n+1,k,c,h=>by
  rcases List.mem_cons.1 h with rfl | h
  ·have:=Nat.mod_lt k hb;omega
  ·exact FM hb n _ c h
theorem FN{b:Nat}(hb:0<b):∀n k m,k<b^n->m<b^n->Cc b n k=Cc b n m->k=m
 | 0,k,m,h1,h2,_=>by simp at h1 h2;omega
 | n+1,k,m,h1,h2,h=>by
  rw [Cc,Cc]at h;injection h with h3 h4
  rw [Nat.pow_succ]at h1 h2;have h5:=FN hb n (k/b) (m/b) ((Nat.div_lt_iff_lt_mul hb).2 h1) ((Nat.div_lt_iff_lt_mul hb).2 h2) h4;have h6:=Nat.div_add_mod k b;have h7:=Nat.div_add_mod m b;rw [h5]at h6;omega
def LK(R:Nat):List Nat->Nat
 | []=>0
 | x::l=>x+R*LK R l
theorem Wa{R:Nat}:∀l:List Nat,(∀x∈l,x<R)->LK R l<R^l.length
 | [],_=>by simp [LK]
 | x::l,h=>by have h1:=Wa l fun y hy=>h y (List.mem_cons_of_mem _ hy);have h2:=h x (List.mem_cons_self ..);rw [LK,List.length_cons,Nat.pow_succ];have h3:R*(LK R l+1)<=R*R^l.length:=Nat.mul_le_mul_left _ h1;rw [Nat.mul_add]at h3;rw [Nat.mul_comm (R^_)];omega
theorem Oz{R:Nat}:∀l m:List Nat,l.length=m.length->(∀x∈l,x<R)->(∀x∈m,x<R)->LK R l=LK R m->l=m
 | [],[],_,_,_,_=>rfl
 | [],_::_,h,_,_,_=>by simp at h
 | _::_,[],h,_,_,_=>by simp at h
 | x::l,y::m,hl,h1,h2,e=>by
  rw [LK,LK]at e;have hx:=h1 x (List.mem_cons_self ..);have hy:=h2 y (List.mem_cons_self ..);have e1:(x+R*LK R l)%R=(y+R*LK R m)%R:=by rw [e]
  rw [Nat.add_mul_mod_self_left,Nat.add_mul_mod_self_left,Nat.mod_eq_of_lt hx,Nat.mod_eq_of_lt hy]at e1;subst e1;have e2:R*LK R l=R*LK R m:=aa;have e3:=Nat.eq_of_mul_eq_mul_left aa e2;rw [Oz l m (au hl) (fun z hz=>h1 z (List.mem_cons_of_mem _ hz)) (fun z hz=>h2 z (List.mem_cons_of_mem _ hz)) e3]
theorem rR{X Y:Nat}:∀(x y:List Int),(∀c∈x,c.natAbs<=X)->(∀i,(nth y i).natAbs<=Y) -> ∀i,(nth (bN x y) i).natAbs<=x.length*(X*Y)
 | [],y,_,_,i=>by rw [show bN [] y = []from rfl,oG];simp
 | k::x,y,hx,hy,i=>by
  have hk:=hx k (List.mem_cons_self ..);have ih:=rR x y (fun c hc=>hx c (List.mem_cons_of_mem _ hc)) hy;have h1:∀j,(nth y j*k).natAbs<=X*Y:=fun j=>by rw [Int.natAbs_mul,Nat.mul_comm];exact Nat.mul_le_mul hk (hy j)
  rw [List.length_cons,Nat.add_mul,Nat.one_mul];cases i with
  | zero =>
   rw [rv];have:=h1 0;omega
  | succ i =>
   rw [mB];have h2:=h1 (i+1);have h3:=ih i;have h4:=Int.natAbs_add_le (nth y (i+1)*k) (nth (bN x y) i);omega
theorem LM{A:Nat}{y:List Int}(h:∀c∈y,c.natAbs<=A)(i:Nat):(nth y i).natAbs<=A:=by
 rcases Nat.lt_or_ge i y.length with h1 | h1
 ·exact h _ (bo h1)
 ·rw [ir h1];exact Nat.zero_le _
namespace ZX
theorem FO(x y:ZX)(i:Nat):nth (x-y).l i=nth x.l i-nth y.l i:=by
 have h:x=(x-y)+y:=aG;have h2:nth x.l i=nth ((x-y)+y).l i:=by rw [<-h]
 rw [show((x-y)+y).l=iw (x-y).l y.l from rfl,vl]at h2;omega
theorem aaw{v:ZX}(ha:a≠0)(hc:∀d,dv d a->dv d b->N d<=1)(h:dv a (v*b)):dv a v:=by obtain⟨g,hg⟩:=jr _ a b (Nat.le_refl _);have h0:=hg.ne (.inl ha);have h1:=hc g hg.l hg.r;have h2:=ZX.ax.1 h0;obtain⟨k,hk,rfl⟩:=j1 (show N g=1 by omega);obtain⟨c,pY,u',v',e⟩:=hg.uv;rw [oO]at e;refine dv.CD (Int.mul_ne_zero pY hk) ?_;rw [e,show(u'*a+v'*b)*v=(u'*v)*a+v'*(v*b)by grind];exact((dv.refl a).mul_left _).add (h.mul_left _)
theorem OA{l:List Int}(h:l.length<=n):N (of l)<=n:=Nat.le_trans (bS l) h
theorem FP{x:ZX}(hN:N x<=n+1)(h:∀i,i<n->nth x.l (i+1)=0):∃c:Int,x=K c:=by
 rcases Nat.lt_or_ge (N x) 2 with h1 | h1
 ·rcases Nat.eq_zero_or_pos (N x)with h2 | h2
  ·refine⟨0,?_⟩;have:x=0:=Classical.byContradiction fun h0=>by have:=ZX.ax.1 h0;omega
   rw [this];rfl
  ·obtain⟨c,_,e⟩:=j1 (show N x=1 by omega);exact⟨c,e⟩
 ·exfalso;have h2:lead x.l≠0:=cZ x.c (show 0<N x by omega);refine h2 ?_;have h3:=h (N x-2) aa;rw [show N x-2+1=x.l.length-1 from by show N x-2+1=N x-1;omega]at h3;exact h3
theorem FQ(l:List Int)(i:Nat):nth (of l).l i=nth l i:=i7 l i
theorem agS{s r l X:Nat}(ha:a≠0)(hb:b≠0)(hA:∀c∈a.l,c.natAbs<=2^s)(hB:∀c∈b.l,c.natAbs<=2^r)(hl:N a+N b<=2^l)(hc:∀d,dv d a->dv d b->N d<=1)(hX:(l+2)*(N a+N b)+s*N b+r*N a<=X) :
  ∃(u v:ZX) (c:Int),c≠0∧u*a+v*b=K c∧N u<=N b∧N v<=N a∧(∀c∈u.l,c.natAbs<=2^(X-s)) ∧ ∀c∈v.l,c.natAbs<=2^(X-r):=by
 have na:=ZX.ax.1 ha;have nb:=ZX.ax.1 hb;obtain⟨p,hp⟩:∃p,N a=p+1:=⟨N a-1,aa⟩
 obtain⟨q,hq⟩:∃q,N b=q+1:=⟨N b-1,aa⟩
 have hsX:s<=X:=by rw [hq,Nat.mul_add s]at hX;omega
 have hrX:r<=X:=by rw [hp,Nat.mul_add r]at hX;omega
 rcases Nat.lt_or_ge 2 (N a+N b)with hm | hm
 ·obtain⟨m,hmm⟩:∃m,p+q=m+1:=⟨p+q-1,aa⟩
  obtain⟨U,hU⟩:∃U,U=2^(X-s):=⟨_,rfl⟩
  obtain⟨V,hV⟩:∃V,V=2^(X-r):=⟨_,rfl⟩
  have hUA:U*2^s=2^X:=by rw [hU,<-Nat.pow_add];congr 1;omega
  have hVB:V*2^r=2^X:=by rw [hV,<-Nat.pow_add];congr 1;omega
  rw [<-hU,<-hV]
  let P:=(U+1)^q
  have hPp:0<P:=Nat.pow_pos (Nat.succ_pos _);have hQp:0<(V+1)^p:=Nat.pow_pos (Nat.succ_pos _)
  let W:=(m+1)*2^X
  let uu:=fun k:Nat=>of (Cc (U+1) q (k%P))
  let vv:=fun k:Nat=>of (Cc (V+1) p (k/P))
  let L:=fun k:Nat=>uu k*a+vv k*b
  have ZL:∀B n k,∀c∈Cc (B+1) n k,c.natAbs<=B:=fun B n k c hc=>by have:=FM (Nat.succ_pos B) _ _ c hc;omega
  have hu:∀k,∀c∈(uu k).l,c.natAbs<=U:=fun k c hc=>ZL _ _ _ c (oF _ _ hc);have hv:∀k,∀c∈(vv k).l,c.natAbs<=V:=fun k c hc=>ZL _ _ _ c (oF _ _ hc);have hNu:∀k,N (uu k)<=q:=fun k=>OA (by rw [wi];exact Nat.le_refl _);have hNv:∀k,N (vv k)<=p:=fun k=>OA (by rw [wi];exact Nat.le_refl _);have hW:∀k i,(nth (L k).l i).natAbs<=W:=fun k i=>by have e:(L k).l=iw (bN (uu k).l a.l) (bN (vv k).l b.l):=rfl;rw [e,vl];have h1:=rR (uu k).l a.l (hu k) (LM hA) i;have h2:=rR (vv k).l b.l (hv k) (LM hB) i;rw [hUA]at h1;rw [hVB]at h2;have h4:=Int.natAbs_add_le (nth (bN (uu k).l a.l) i) (nth (bN (vv k).l b.l) i);have h5:(uu k).l.length*2^X+(vv k).l.length*2^X<=W:=(by rw [<-Nat.add_mul];refine Nat.mul_le_mul_right _ ?_;have h4:N (uu k)<=q:=hNu k;have h5:N (vv k)<=p:=hNv k;show N (uu k)+N (vv k)<=m+1;omega);omega
  let im:=fun k:Nat=>(List.range m).map fun i=>(nth (L k).l (i+1)+W).toNat
  have UN:∀k,∀x∈im k,x<2*W+1:=fun k x hx=>by simp only [im,List.mem_map]at hx;obtain⟨i,_,rfl⟩:=hx;have:=hW k (i+1);omega
  have atg:(2*W+1)^m<P*(V+1)^p:=by have h1:2*W+1<=2^(X+l+2):=(by have h2:(m+1)*2^X<=2^l*2^X:=Nat.mul_le_mul_right _ aa;have h3:2^(X+l+2)=2^l*2^X*4:=(by rw [Nat.pow_add,Nat.pow_add,Nat.mul_comm (2^X)]);have h4:1<=2^l*2^X:=Nat.mul_pos (Nat.two_pow_pos _) (Nat.two_pow_pos _);simp only [W];omega);have h2:=Nat.pow_le_pow_left h1 m;rw [<-Nat.pow_mul]at h2;have h3:2^((X-s)*q+(X-r)*p)<=P*(V+1)^p:=(by rw [Nat.pow_add,Nat.pow_mul,Nat.pow_mul,<-hU,<-hV];exact Nat.mul_le_mul (Nat.pow_le_pow_left (Nat.le_succ _) _) (Nat.pow_le_pow_left (Nat.le_succ _) _));refine Nat.lt_of_le_of_lt h2 (Nat.lt_of_lt_of_le (Nat.pow_lt_pow_right ar ?_) h3);rw [hp,hq]at hX;rw [Nat.sub_mul,Nat.sub_mul];have e1:X*q+X*p=X*m+X:=(by rw [<-Nat.mul_add,show q+p=m+1 by omega,Nat.mul_add,Nat.mul_one]);have e2:s*q<=X*q:=Nat.mul_le_mul_right _ hsX;have e3:r*p<=X*p:=Nat.mul_le_mul_right _ hrX;have e4:(X+l+2)*m=X*m+(l+2)*m:=(by rw [Nat.add_assoc,Nat.add_mul]);have e5:(l+2)*(p+1+(q+1))=(l+2)*m+(l+2)*3:=(by rw [<-Nat.mul_add];congr 1;omega);have e6:s*(q+1)=s*q+s:=Nat.mul_succ _ _;have e7:r*(p+1)=r*p+r:=Nat.mul_succ _ _;omega
  obtain⟨n,hn⟩:∃n,P*(V+1)^p=n+1:=⟨P*(V+1)^p-1,by have:=Nat.mul_pos hPp hQp;omega⟩
  obtain⟨i,j,qy,hj,e⟩:=V9 n (fun k=>LK (2*W+1) (im k)) (fun k hk=>by have h1:=Wa (im k) (UN k);rw [show(im k).length=m by simp [im]]at h1;show LK (2*W+1) (im k)<n;omega);have e2:=Oz (im i) (im j) (by simp [im]) (UN i) (UN j) e
  have e3:∀s,s<m->nth (L i).l (s+1)=nth (L j).l (s+1):=fun s hs=>by
   have h1:(im i)[s]? = (im j)[s]? := by rw [e2]
   simp only [im,List.getElem?_map,List.getElem?_range hs,Option.map_some]at h1;injection h1 with h1
   have:=hW i (s+1);have:=hW j (s+1);omega
  have hNL:∀x y:ZX,N x<=q->N y<=p->N (x*a+y*b)<=m+1:=fun x y hx hy=>by have h1:N (x*a+y*b)<=max (N (x*a)) (N (y*b)):=AL _ _;have h2:N (x*a)<=N x+N a-1:=ru (x:=x.l) (y:=a.l) na;have h3:N (y*b)<=N y+N b-1:=ru (x:=y.l) (y:=b.l) nb;omega
  have GD:N (uu i-uu j)<=q:=by have h1:N (uu i-uu j)<=max (N (uu i)) (N (uu j)):=vh _ _;have:=hNu i;have:=hNu j;omega
  have JO:N (vv i-vv j)<=p:=by have h1:N (vv i-vv j)<=max (N (vv i)) (N (vv j)):=vh _ _;have:=hNv i;have:=hNv j;omega
  have eL:(uu i-uu j)*a+(vv i-vv j)*b=L i-L j:=by simp only [L];grind
  obtain⟨c,Lg⟩:=FP (x:=(uu i-uu j)*a+(vv i-vv j)*b) (n:=m) (hNL _ _ GD JO) (fun s hs=>by rw [eL,FO,e3 s hs];omega)
  have mr:∀(B n k k':Nat),∀c∈(of (Cc (B+1) n k)-of (Cc (B+1) n k')).l,c.natAbs<=B:=fun B n k k' c hc=>by
   obtain⟨s,hs,rfl⟩:=List.getElem_of_mem hc;rw [<-bJ hs,FO,FQ,FQ]
   have h3:∀k,0<=nth (Cc (B+1) n k) s∧nth (Cc (B+1) n k) s<((B+1:Nat):Int):=fun k=>by
    rcases Nat.lt_or_ge s (Cc (B+1) n k).length with h4 | h4
    ·exact FM (Nat.succ_pos B) _ _ _ (bo h4)
    ·rw [ir h4];exact⟨ar,by show(0:Int)<_;omega⟩
   have:=h3 k;have:=h3 k';omega
  refine⟨uu i-uu j,vv i-vv j,c,fun h0=>?_,Lg,aa,aa,mr _ _ _ _,mr _ _ _ _⟩;rw [h0,show K 0=(0:ZX)from rfl]at Lg;have hvz:vv i-vv j=0:=Classical.byContradiction fun km=>by have h1:dv a (vv i-vv j):=aaw ha hc (b:=b) ⟨1,ar, -(uu i-uu j),by show(1:ZX)*_=_;have:(vv i-vv j)*b = -((uu i-uu j)*a):=aG;rw [this];grind⟩;have:=h1.j2 km;omega
  have huz:uu i-uu j=0:=Classical.byContradiction fun km=>by have h1:(uu i-uu j)*a=0:=(by rw [hvz]at Lg;grind);exact kB km ha h1
  have hd:∀(B n k k':Nat),of (Cc (B+1) n k)-of (Cc (B+1) n k')=0->Cc (B+1) n k=Cc (B+1) n k':=fun B n k k' h0=>by refine List.ext_getElem (by rw [wi,wi]) fun s hs wF=>?_;have h3:=FO (of (Cc (B+1) n k)) (of (Cc (B+1) n k')) s;rw [h0,show nth (0:ZX).l s=0 from oG s,FQ,FQ]at h3;rw [<-bJ hs,<-bJ wF];omega
  have lt2:∀k,k<=n->k/P<(V+1)^p:=fun k hk=>(Nat.div_lt_iff_lt_mul hPp).2 (by rw [Nat.mul_comm];omega);have d1:i%P=j%P:=FN (Nat.succ_pos U) q _ _ (Nat.mod_lt i hPp) (Nat.mod_lt j hPp) (hd _ _ _ _ huz);have d2:i/P=j/P:=FN (Nat.succ_pos V) p _ _ (lt2 i aa) (lt2 j hj) (hd _ _ _ _ hvz);have h6:=Nat.div_add_mod i P;have h7:=Nat.div_add_mod j P;rw [d1,d2]at h6;omega
 ·obtain⟨c,pY,rfl⟩:=j1 (show N a=1 by omega);refine⟨1,0,c,pY,aG,by rw [tL];omega,by rw [UT];omega,fun x hx=>?_,fun x hx=>by cases hx⟩;have h1:(1:ZX).l = [1]:=rfl;rw [h1]at hx;simp at hx;subst hx;exact Nat.two_pow_pos _
end ZX
end Pm
namespace Pm
variable {a b f:ZX}{s n β l:Nat}{t ε x y:Rat}
theorem og(a b:Nat):(2:Rat)^(a+b)=2^a*2^b:=by
 induction b with
 | zero=>rw [Nat.add_zero,Rat.pow_zero,Rat.mul_one]
 | succ b ih=>rw [<-Nat.add_assoc,Rat.pow_succ,Rat.pow_succ,ih];grind
theorem eU(a:Nat):(0:Rat)<2^a:=Rat.pow_pos ar
theorem pE:∀a:Nat,(1:Rat)<=2^a
 | 0=>by simp
 | a+1=>by have:=pE a;rw [Rat.pow_succ];grind
theorem BH{a b:Nat}(h:a<=b):(2:Rat)^a<=2^b:=by
 obtain⟨c,rfl⟩:∃c,b=a+c:=⟨b-a,aa⟩
 rw [og];have h1:=pE c;have h2:=eU a;have h3:=Rat.mul_le_mul_of_nonneg_left h1 (Rat.le_of_lt h2);grind
theorem FR:∀a:Nat,(((2^a:Nat):Int):Rat)=2^a
 | 0=>by simp
 | a+1=>by rw [Nat.pow_succ,Rat.pow_succ,<-FR a,Int.natCast_mul,Rat.intCast_mul];rfl
theorem DY{c:Int}(h:c.natAbs<=2^s):Ab (c:Rat) (2^s):=by have h1:=FR s;have h2:c<=((2^s:Nat):Int):=aa;have h3 : -((2^s:Nat):Int)<=c:=aa;have h4:=Rat.intCast_le_intCast.2 h2;have h5:=Rat.intCast_le_intCast.2 h3;rw [Rat.intCast_neg]at h5;rw [h1]at h4 h5;exact⟨h5,h4⟩
theorem LN(s β:Nat):∀k,Cb (2^s) (2^β) k=2^(s+k*(β+2))
 | 0=>by simp [Cb]
 | k+1=>by rw [Cb,LN s β k,show s+(k+1)*(β+2)=s+k*(β+2)+β+1+1 by rw [Nat.add_mul];omega,Rat.pow_succ,Rat.pow_succ,og _ β];grind
namespace ZX
theorem anz(h:∀c∈a.l,c.natAbs<=2^s)(hN:N a<=n)(ht:Ab t (2^β)):Ab (e t a) (2^(s+n*(β+2))):=by have h1:=Ix (S:=2^s) (B:=2^β) (t:=t) (Rat.le_of_lt (eU s)) (pE β) ht a.l fun c hc=>DY (h c hc);rw [LN]at h1;refine h1.mono (BH ?_);have:a.l.length*(β+2)<=n*(β+2):=Nat.mul_le_mul_right _ hN;omega
theorem Wb(h:∀c∈a.l,c.natAbs<=2^s)(hN:N a<=n){r:Rat}(hr:Ab r (2^β))(ht:Ab t (2^β)):Ab (dd r t a.l) (2^(s+n*(β+2)))∧Ab (cc r t a.l) (2^(s+n*(β+2))):=by have h1:=DP (S:=2^s) (B:=2^β) (s:=r) (t:=t) (Rat.le_of_lt (eU s)) (pE β) hr ht a.l fun c hc=>DY (h c hc);have h2:=VL (S:=2^s) (B:=2^β) (s:=r) (t:=t) (Rat.le_of_lt (eU s)) (pE β) hr ht a.l fun c hc=>DY (h c hc);rw [LN]at h1 h2;have h3:a.l.length*(β+2)<=n*(β+2):=Nat.mul_le_mul_right _ hN;exact⟨h1.mono (BH aa),h2.mono (BH aa)⟩
def sk(s n l β:Nat):Nat:=n*(s+2+l)+n*(β+2)+1
def sx(a b:ZX)(s r l:Nat):Nat:=(l+2)*(N a+N b)+s*N b+r*N a
theorem anA{r:Nat}(ha:a≠0)(hb:b≠0)(hA:∀c∈a.l,c.natAbs<=2^s)(hB:∀c∈b.l,c.natAbs<=2^r)(hl:N a+N b<=2^l)(hc:∀d,dv d a->dv d b->N d<=1)
  {η:Rat} (ht:Ab t (2^β)) (hε:ε*2^(sx a b s r l-s+N b*(β+2)+1)<=1) (hη:η*2^(sx a b s r l-r+N a*(β+2)+1)<=1):jM ε (e t a)∨jM η (e t b):=by
 obtain⟨u,v,c,pY,he,hNu,hNv,hu,hv⟩:=agS ha hb hA hB hl hc (Nat.le_refl _);have h1:=anz (β:=β) hu hNu ht;have h2:=anz (β:=β) hv hNv ht;have h3:e t u*e t a+e t v*e t b=(c:Rat):=by rw [<-iC,<-iC,<-adi,he,wN]
 have h4:=sS pY;rw [show(l+2)*(N a+N b)+s*N b+r*N a=sx a b s r l from rfl]at h1 h2;rw [og _ 1]at hε hη;have hM:=eU (sx a b s r l-s+N b*(β+2));have hM2:=eU (sx a b s r l-r+N a*(β+2));generalize (2:Rat)^(sx a b s r l-s+N b*(β+2))=M at *;generalize (2:Rat)^(sx a b s r l-r+N a*(β+2))=M2 at *;refine Classical.byContradiction fun yQ=>?_;have e1:(2:Rat)^1=2:=by rw [Rat.pow_succ,Rat.pow_zero];grind
 rw [e1]at hε hη
 have key:∀x y E M:Rat,0<M->Ab y M->E*(M*2)<=1->¬jM E x -> ∃δ:Rat,δ<1/2∧Ab (y*x) δ:=fun x y E M hM hy hE hx=>by
  have g1:=zr hx
  obtain⟨m,g2,g3,g4⟩:∃m:Rat,m<E∧x<=m ∧ -x<=m:=by
   by_cases h:x <= -x
   ·exact⟨-x,aG,h,Rat.le_refl⟩
   ·exact⟨x,aG,Rat.le_refl,aG⟩
  have g5:=hy.mul (show Ab x m from⟨aG,g3⟩);refine⟨_,?_,g5⟩;have g6:=Rat.mul_lt_mul_of_pos_left g2 hM;grind
 obtain⟨d1,p1,p2,p3⟩:=key _ _ _ _ hM h1 hε fun h=>yQ (.inl h);obtain⟨d2,p4,p5,p6⟩:=key _ _ _ _ hM2 h2 hη fun h=>yQ (.inr h);rcases h4 with h4 | h4<;>grind
theorem Wc{m:Nat}(hn:N a+N b<=n)(hm:m<=n):sx a b s s l-s+m*(β+2)+1<=sk s n l β:=by unfold sx sk;have h1:(l+2)*(N a+N b)+s*N b+s*N a=(s+2+l)*(N a+N b):=aG;have h2:(s+2+l)*(N a+N b)<=(s+2+l)*n:=Nat.mul_le_mul_left _ hn;have h3:m*(β+2)<=n*(β+2):=Nat.mul_le_mul_right _ hm;rw [h1,Nat.mul_comm n];omega
theorem BI{i j:Nat}(h:ε*2^j<=1)(qy:i<=j):ε*2^i<=1:=by
 have h1:=BH qy;have h2:=eU i
 by_cases h0:0<=ε
 ·have:=Rat.mul_le_mul_of_nonneg_left h1 h0;grind
 ·have:=Rat.mul_lt_mul_of_pos_right (show ε<0 by grind) h2;grind
theorem sep(ha:a≠0)(hb:b≠0)(hA:∀c∈a.l,c.natAbs<=2^s)(hB:∀c∈b.l,c.natAbs<=2^s)(hn:N a+N b<=n)(hl:n<=2^l)(hc:∀d,dv d a->dv d b->N d<=1)
 (ht:Ab t (2^β)) (hε:ε*2^sk s n l β<=1):jM ε (e t a)∨jM ε (e t b):=
 anA (l:=l) ha hb hA hB aa hc ht (BI hε (Wc hn aa)) (BI hε (Wc hn aa))
theorem agT(h:∀c∈f.l,c.natAbs<=2^s)(hN:N f<=n)(hl:n<=2^l):∀c∈(bQ f).l,c.natAbs<=2^(s+l):=fun c hc=>by have h1:=oF _ _ hc;simp only [xn,List.mem_map,List.mem_range]at h1;obtain⟨i,hi,rfl⟩:=h1;rw [Int.natAbs_mul,Nat.pow_add];have h2:=LM h (i+1);have h3:N f=f.l.length:=rfl;exact Nat.mul_le_mul h2 (by rw [Int.natAbs_natCast];omega)
theorem aax{z:Rat}(h:(x<y∧y<z)∨(y<x∧z<y)):(if x≠0∧bU z≠bU x then 1 else 0:Nat)=(if x≠0∧bU y≠bU x then 1 else 0)+(if y≠0∧bU z≠bU y then 1 else 0):=by
 rcases cP x with ⟨h1,h2⟩ | ⟨h1,h2⟩ | ⟨h1,h2⟩<;>rcases cP y with ⟨h3,h4⟩ | ⟨h3,h4⟩ | ⟨h3,h4⟩<;>rcases cP z with ⟨h5,h6⟩ | ⟨h5,h6⟩ | ⟨h5,h6⟩ <;>
  rw [h2,h4,h6]<;>first
   | (exfalso;rcases h with ⟨h7,h8⟩ | ⟨h7,h8⟩<;>grind)
   | (have n1:(x≠0)=True:=eq_true aG
      have n2:(y≠0)=True:=eq_true aG;simp only [n1,n2];decide)
   | (have n1:(x≠0)=False:=eq_false aG
      have n2:(y≠0)=True:=eq_true aG;simp only [n1,n2];decide)
   | (have n1:(x≠0)=True:=eq_true aG
      have n2:(y≠0)=False:=eq_false aG;simp only [n1,n2];decide)
def BJ(f:ZX)(t:Rat):Int:=if e t f=0 then bU (e t (bQ f))else bU (e t f)
theorem Wd{σ:Int}(h:(σ=1∧x<y)∨(σ = -1∧y<x)):(if y=0 then σ else bU y)=(if (if x≠0∧bU y≠bU x then 1 else 0:Nat)=0 then 1 else -1)*(if x=0 then σ else bU x):=by
 rcases cP x with ⟨h1,h2⟩ | ⟨h1,h2⟩ | ⟨h1,h2⟩<;>rcases cP y with ⟨h3,h4⟩ | ⟨h3,h4⟩ | ⟨h3,h4⟩<;>rw [h2,h4]<;>first
   | (exfalso;rcases h with ⟨h7,h8⟩ | ⟨h7,h8⟩<;>grind)
   | (have n1:(x=0)=False:=eq_false aG
      have n2:(y=0)=False:=eq_false aG;simp only [n1,n2,ne_eq,not_false_eq_true,true_and,if_false];decide)
   | (have n1:(x=0)=True:=eq_true aG
      have n2:(y=0)=False:=eq_false aG;have:σ=1∨σ = -1:=aa
      rcases this with rfl | rfl<;>first
        | (simp only [n1,n2,ne_eq,not_true_eq_false,false_and,if_false,if_true];decide)
        | (exfalso;rcases h with ⟨h7,h8⟩ | ⟨h7,h8⟩<;>grind))
   | (have n1:(x=0)=False:=eq_false aG
      have n2:(y=0)=True:=eq_true aG;have:σ=1∨σ = -1:=aa
      rcases this with rfl | rfl<;>first
        | (simp only [n1,n2,ne_eq,not_false_eq_true,true_and,if_false,if_true];decide)
        | (exfalso;rcases h with ⟨h7,h8⟩ | ⟨h7,h8⟩<;>grind))
structure ath(f:ZX)(B δ:Rat):Prop where
 par:∀s t,Ab s B->Ab t B->s<t->t-s<=δ->BJ f t=(if ind f s t=0 then 1 else -1)*BJ f s
def lk(s n l β:Nat):Nat:=sk (s+l) (n+n) (l+1) β+(s+l+n*(β+2))+2
theorem sU{L:List ZX}(G:ur L f)(hf:f≠0)(hA:∀c∈f.l,c.natAbs<=2^s)(hn:N f<=n)(hl:n<=2^l)(hc:∀d,dv d f->dv d (bQ f)->N d<=1){δ:Rat}(hδ:δ*2^lk s n l β<=1):XQ L f (2^β) δ∧ath f (2^β) δ:=by
 have Jo:∀c∈f.l,c.natAbs<=2^(s+l):=fun c hc=>Nat.le_trans (hA c hc) (Nat.pow_le_pow_right ar aa);have hD:=agT hA hn hl;have hND:=mL f
 have main:∀lo hi,Ab lo (2^β)->Ab hi (2^β)->lo<hi->hi-lo<=δ->vt L lo=vt L hi+ind f lo hi∧(e lo f=0->e hi f≠0)∧BJ f hi=(if ind f lo hi=0 then 1 else -1)*BJ f lo:=fun lo hi alo ahi So hw=>by
  have hδ0:0<δ:=aG;rw [lk,og,og]at hδ;have hQ:=eU (s+l+n*(β+2));have hK:=eU (sk (s+l) (n+n) (l+1) β);generalize hQe:(2:Rat)^(s+l+n*(β+2))=Q at *;generalize hKe:(2:Rat)^sk (s+l) (n+n) (l+1) β=κ at *;have h22:(2:Rat)^2=4:=by rw [Rat.pow_succ,Rat.pow_succ,Rat.pow_zero];grind
  rw [h22]at hδ;have hε:(1/κ)*κ=1:=Rat.div_mul_cancel (Rat.ne_of_gt hK);have hε0:0<1/κ:=(Rat.lt_div_iff hK).2 aG;generalize 1/κ=ε at *;have hδQ:4*(δ*Q)<=ε:=by have h1:δ*(κ*Q*4)=(4*(δ*Q))*κ:=aG;rw [h1,<-hε]at hδ;exact Rat.le_of_mul_le_mul_right hδ hK
  have wY:∀x,lo<=x->x<=hi->Ab x (2^β):=fun x h1 h2=>bR alo ahi h1 h2
  by_cases Uw:bQ f=0
  ·-- a constant
   have ZQ:N f=1:=by
    have h0:=ZX.ax.1 hf
    rcases Nat.lt_or_ge (N f) 2 with h1 | h1
    ·omega
    ·exact absurd Uw (Fs h1)
   obtain⟨c,pY,rfl⟩:=j1 ZQ;have hcv:∀x,bU (e x (K c))=bU (c:Rat):=fun x=>by rw [wN]
   have h1:=G.const So (σ:=bU (c:Rat)) (.inr (hcv lo)) (fun x _ _=>hcv x);have h2:ind (K c) lo hi=0:=if_neg fun h=>h.2 (by rw [hcv,hcv]);have anC:(c:Rat)≠0:=fun h=>pY (by exact_mod_cast h);have hz:∀x,e x (K c)≠0:=fun x=>by rw [wN];exact anC
   exact⟨by rw [h1,h2];omega,fun h=>by rw [wN]at h;exact absurd h anC,by rw [h2,if_pos rfl,Int.one_mul,BJ,BJ,if_neg (hz _),if_neg (hz _),hcv,hcv]⟩
  have hb:=sep hf Uw Jo hD (show N f+N (bQ f)<=n+n by omega) (show n+n<=2^(l+1)by rw [Nat.pow_succ];omega) hc alo (ε:=ε) (by rw [hKe,hε];exact Rat.le_refl);have dsz:∀x y,lo<=x->x<=hi->lo<=y->y<=hi->Ab (dd x y f.l) Q∧Ab (cc x y f.l) Q∧Ab (dd x y (bQ f).l) Q:=fun x y h1 h2 h3 h4=>by have g1:=Wb Jo hn (wY x h1 h2) (wY y h3 h4);have g2:=Wb hD (show N (bQ f)<=n by omega) (wY x h1 h2) (wY y h3 h4);rw [hQe]at g1 g2;exact⟨g1.1,g1.2,g2.1⟩
  have awr:0<=δ*Q:=Rat.mul_nonneg (Rat.le_of_lt hδ0) (Rat.le_of_lt hQ);have small:∀h x,0<=h->h<=δ->Ab x Q->Ab (h*x) (δ*Q):=fun h x h1 h2 h3=>Ab.mul ⟨aG,h2⟩ h3
  rcases hb with hb | hb
  ·-- one sign
   have wM:∀x,lo<=x->x<=hi->bU (e x f)=bU (e lo f)∧bU (e lo f)≠0:=fun x h1 h2=>by refine fJ hb hε0 fun h=>?_;have h3:=mO lo x f.l;have h4:=small (x-lo) _ aG aG (dsz lo x Rat.le_refl aG h1 h2).1;rw [<-h3]at h4;obtain⟨p1,p2⟩:=h4;have h5:e x f-e lo f=qv x f.l-qv lo f.l:=rfl;rw [h5]at h;rcases h with h | h<;>grind
   have h1:=G.const So (σ:=bU (e lo f)) (.inr rfl) (fun x h1 h2=>(wM x aG h2).1);have h2:ind f lo hi=0:=if_neg fun h=>h.2 (wM hi aG Rat.le_refl).1;have hz:∀x,lo<=x->x<=hi->e x f≠0:=fun x h1 h2 h=>by obtain⟨g1,g2⟩:=wM x h1 h2;rw [h,jd]at g1;exact g2 g1.symm
   exact⟨by rw [h1,h2];omega,fun h=>absurd h (hz lo Rat.le_refl aG),by rw [h2,if_pos rfl,Int.one_mul,BJ,BJ,if_neg (hz _ aG Rat.le_refl),if_neg (hz _ Rat.le_refl aG),(wM hi aG Rat.le_refl).1]⟩
  ·-- rising or aqa
   have mono:∀x y,lo<=x->x<y->y<=hi->bU (e y f-e x f)=bU (e lo (bQ f))∧bU (e lo (bQ f))≠0:=fun x y h1 h2 h3=>by
    have g1:=mO x y f.l;have g2:=Lt x y f.l;have g3:dd x x f.l=e x (bQ f):=(adj x f).symm;have g4:=mO lo x (bQ f).l;have b1:=small (y-x) _ aG aG (dsz x y h1 aG aG h3).2.1;have b2:=small (x-lo) _ aG aG (dsz lo x Rat.le_refl aG h1 aG).2.2;rw [<-g2]at b1;rw [<-g4]at b2;have h5:e x (bQ f)-e lo (bQ f)=qv x (bQ f).l-qv lo (bQ f).l:=rfl;have h6:=fJ (y:=dd x y f.l) hb hε0 fun h=>by obtain⟨p1,p2⟩:=b1;obtain⟨p3,p4⟩:=b2;rcases h with h | h<;>grind
    have h7:e y f-e x f=qv y f.l-qv x f.l:=rfl;rw [h7,g1,sP,eE (show 0<y-x by grind),Int.one_mul];exact h6
   have OB:∀x y,lo<=x->x<y->y<=hi->(bU (e lo (bQ f))=1∧e x f<e y f)∨(bU (e lo (bQ f)) = -1∧e y f<e x f):=fun x y h1 h2 h3=>by
    obtain⟨g1,g2⟩:=mono x y h1 h2 h3
    rcases cP (e y f-e x f)with ⟨g3,g4⟩ | ⟨g3,g4⟩ | ⟨g3,g4⟩
    ·exact .inr ⟨aa,aG⟩
    ·omega
    ·exact .inl ⟨aa,aG⟩
   have dsg:∀x,lo<=x->x<=hi->bU (e x (bQ f))=bU (e lo (bQ f)):=fun x h1 h2=>by have g4:=mO lo x (bQ f).l;have b2:=small (x-lo) _ aG aG (dsz lo x Rat.le_refl aG h1 h2).2.2;rw [<-g4]at b2;have h5:e x (bQ f)-e lo (bQ f)=qv x (bQ f).l-qv lo (bQ f).l:=rfl;exact(fJ hb hε0 fun h=>by obtain⟨p3,p4⟩:=b2;rcases h with h | h<;>grind).1
   refine⟨?_,fun h=>?_,?_⟩
   ·refine G.VO (P:=fun x y=>lo<=x->y<=hi->vt L x=vt L y+ind f x y) (fun x y z pR hyz p1 p2 hx hz=>?_) (fun B δ' hL x y hx hy pR hd h1 h2=>hL.turns x y hx hy pR hd) So Rat.le_refl Rat.le_refl;rw [p1 hx aG,p2 aG hz];have h1:=OB x y hx pR aG;have h2:=OB y z aG hyz hz
    have h3:=aax (x:=e x f) (y:=e y f) (z:=e z f) (by
     rcases h1 with ⟨q1,q2⟩ | ⟨q1,q2⟩<;>rcases h2 with ⟨q3,q4⟩ | ⟨q3,q4⟩
     ·exact .inl ⟨q2,q4⟩
     ·omega
     ·omega
     ·exact .inr ⟨q2,q4⟩)
    have h4:ind f x z=ind f x y+ind f y z:=h3;omega
   ·rcases OB lo hi Rat.le_refl So Rat.le_refl with ⟨q1,q2⟩ | ⟨q1,q2⟩<;>grind
   ·have h1:=Wd (OB lo hi Rat.le_refl So Rat.le_refl);unfold BJ ind;rw [dsg hi aG Rat.le_refl];exact h1
 exact⟨⟨fun x y hx hy pR hd=>(main x y hx hy pR hd).1,fun x y hx hy pR hd=>(main x y hx hy pR hd).2.1⟩,⟨fun x y hx hy pR hd=>(main x y hx hy pR hd).2.2⟩⟩
end ZX
end Pm
namespace Pm
variable {a b t s x:Rat}{f:ZX}{v:Rat->Nat}{U:Rat->Prop}
namespace ZX
theorem BK:∀l:List Int,∃s:Nat,∀c∈l,c.natAbs<=2^s
 | []=>⟨0,fun c hc=>by cases hc⟩
 | a::l=>by
  obtain⟨s,h⟩:=BK l;refine⟨s+a.natAbs,fun c hc=>?_⟩
  rcases List.mem_cons.1 hc with rfl | hc
  ·have h1:c.natAbs<2^c.natAbs:=Nat.lt_two_pow_self;exact Nat.le_trans (Nat.le_of_lt h1) (Nat.pow_le_pow_right ar aa)
  ·exact Nat.le_trans (h c hc) (Nat.pow_le_pow_right ar aa)
theorem IJ(B:Rat):∃β:Nat,B<=2^β:=by
 have h1:=Rat.lt_floor_add_one B;refine⟨(B.floor+1).toNat,Rat.le_trans (Rat.le_of_lt h1) ?_⟩;have h2:((2^(B.floor+1).toNat:Int):Rat)=2^(B.floor+1).toNat:=by rw [Rat.intCast_pow];rfl
 rw [<-h2];refine Rat.intCast_le_intCast.2 ?_;have h3:(B.floor+1).toNat<2^(B.floor+1).toNat:=Nat.lt_two_pow_self;have h4:((2^(B.floor+1).toNat:Nat):Int)=2^(B.floor+1).toNat:=by rw [Int.natCast_pow];rfl
 omega
theorem BL(k:Nat):∃δ:Rat,0<δ∧δ*2^k=1:=by have h:=eU k;have h1:(1/2^k)*(2:Rat)^k=1:=Rat.div_mul_cancel (Rat.ne_of_gt h);exact⟨1/2^k,(Rat.lt_div_iff h).2 aG,h1⟩
theorem min2(ha:0<a)(hb:0<b):∃c:Rat,0<c∧c<=a∧c<=b:=by
 by_cases h:a<=b
 ·exact⟨a,ha,Rat.le_refl,h⟩
 ·exact⟨b,hb,aG,Rat.le_refl⟩
theorem ado{P:Rat->Rat->Prop}(ht:∀a b c,a<b->b<c->P a b->P b c->P a c)(hs:∀B:Rat,1<=B -> ∃δ:Rat,0<δ ∧ ∀a b,Ab a B->Ab b B->a<b->b-a<=δ->P a b)(fm:a<b):P a b:=by obtain⟨B,hB,ha,hb⟩:=iU a b;obtain⟨δ,hδ,h⟩:=hs B hB;exact agH hδ ht h ha hb fm
theorem lip(p:ZX)(B:Rat)(hB:1<=B):∃Q:Rat,0<Q ∧ ∀a b,Ab a B->Ab b B->a<=b->Ab (e b p-e a p) ((b-a)*Q):=by obtain⟨S,hS,hc⟩:=zA p.l;obtain⟨h3,_⟩:=nM hS hB p.l.length;refine⟨Cb S B p.l.length+1,aG,fun a b ha hb fm=>?_⟩;have h1:=(DP hS hB ha hb p.l hc).mono (show Cb S B p.l.length<=Cb S B p.l.length+1 by grind);have h2:=mO a b p.l;have h4:e b p-e a p=qv b p.l-qv a p.l:=rfl;rw [h4,h2];exact Ab.mul ⟨aG,Rat.le_refl⟩ h1
def rS(a b:ZX):Prop:=∀d,dv d a->dv d b->N d<=1
theorem rS.mono{a b c d:ZX}(h:rS a b)(h1:dv c a)(h2:dv d b):rS c d:=fun x h3 h4=>h x (h3.trans h1) (h4.trans h2)
theorem anD{a b:ZX}(ha:a≠0)(hb:b≠0)(hc:rS a b)(B:Rat):∃ε:Rat,0<ε ∧ ∀t,Ab t B->jM ε (e t a)∨jM ε (e t b):=by obtain⟨s1,h1⟩:=BK a.l;obtain⟨s2,h2⟩:=BK b.l;obtain⟨β,hβ⟩:=IJ B;obtain⟨ε,h3,h4⟩:=BL (sk (s1+s2) (N a+N b) (N a+N b) β);exact⟨ε,h3,fun t ht=>sep (s:=s1+s2) (l:=N a+N b) (β:=β) ha hb (fun c hc=>Nat.le_trans (h1 c hc) (Nat.pow_le_pow_right ar aa)) (fun c hc=>Nat.le_trans (h2 c hc) (Nat.pow_le_pow_right ar aa)) (Nat.le_refl _) (Nat.le_of_lt Nat.lt_two_pow_self) hc (ht.mono hβ) (by rw [h4];exact Rat.le_refl)⟩
structure pF(f:ZX)(v:Rat->Nat):Prop where
 ne:f≠0
 DZ:rS f (bQ f)
 g:∃L,ur L f∧v=vt L
structure ati(f:ZX)(v:Rat->Nat)(B δ:Rat):Prop where
 turns:∀s t,Ab s B->Ab t B->s<t->t-s<=δ->v s=v t+ind f s t
 simple:∀s t,Ab s B->Ab t B->s<t->t-s<=δ->e s f=0->e t f≠0
 par:∀s t,Ab s B->Ab t B->s<t->t-s<=δ->BJ f t=(if ind f s t=0 then 1 else -1)*BJ f s
def XR(n:Nat):Int:=if n%2=0 then 1 else -1
theorem aay(a b:Nat):XR (a+b)=XR a*XR b:=by unfold XR;split<;>split<;>split<;>omega
theorem FT(f:ZX)(s t:Rat):ind f s t=0∨ind f s t=1:=by unfold ind;split<;>simp
namespace pF
variable {f:ZX} {v:Rat->Nat} (S:pF f v)
include S
theorem o7(B:Rat):∃δ:Rat,0<δ∧ati f v B δ:=by obtain⟨L,G,rfl⟩:=S.g;obtain⟨s,h1⟩:=BK f.l;obtain⟨β,hβ⟩:=IJ B;obtain⟨δ,h3,h4⟩:=BL (lk s (N f) (N f) β);obtain⟨h5,h6⟩:=sU G S.ne h1 (Nat.le_refl _) (Nat.le_of_lt Nat.lt_two_pow_self) S.DZ (δ:=δ) (by rw [h4];exact Rat.le_refl);exact⟨δ,h3,fun s t hs ht=>h5.turns s t (hs.mono hβ) (ht.mono hβ),fun s t hs ht=>h5.simple s t (hs.mono hβ) (ht.mono hβ),fun s t hs ht=>h6.par s t (hs.mono hβ) (ht.mono hβ)⟩
theorem bI{a b:Rat}(fm:a<=b):v b<=v a:=by obtain⟨L,G,rfl⟩:=S.g;exact G.bI fm
theorem const{a b:Rat}(fm:a<b){σ:Int}(h0:e a f=0∨bU (e a f)=σ)(h1:∀x,a<x->x<=b->bU (e x f)=σ):v a=v b:=by obtain⟨L,G,rfl⟩:=S.g;exact G.const fm h0 h1
theorem flat{a b:Rat}(fm:a<b)(he:v a=v b):e b f≠0∧(e a f≠0->bU (e b f)=bU (e a f)):=by obtain⟨L,G,rfl⟩:=S.g;exact G.flat fm he
theorem root{s t:Rat}(g9:s<t)(h0:e t f=0):v t<v s:=by obtain⟨L,G,rfl⟩:=S.g;exact G.root g9 h0
theorem bg{a b:Rat}(hb:Bg a b f)(fm:a<b):v a=v b:=by obtain⟨L,G,rfl⟩:=S.g;exact G.bg hb fm
theorem par{s t:Rat}(h:s<=t):BJ f t=XR (v s-v t)*BJ f s:=by
 rcases Rat.le_iff_lt_or_eq.1 h with h1 | rfl
 ·refine ado (P:=fun a b=>BJ f b=XR (v a-v b)*BJ f a) (fun a b c h1 h2 p1 p2=>?_) (fun B hB=>?_) h1
  ·have:=S.bI (Rat.le_of_lt h1);have:=S.bI (Rat.le_of_lt h2);rw [p2,p1,show v a-v c=(v a-v b)+(v b-v c)by omega,aay];grind
  ·obtain⟨δ,hδ,hN⟩:=S.o7 B;refine⟨δ,hδ,fun a b ha hb fm hd=>?_⟩;have h1:=hN.turns a b ha hb fm hd;have h2:=hN.par a b ha hb fm hd;rw [h2,show v a-v b=ind f a b by omega];rcases FT f a b with h3 | h3<;>rw [h3]<;>rfl
 ·rw [Nat.sub_self];show _=1*_;omega
end pF
theorem aaz(h:e t f≠0):∃r:Rat,0<r ∧ ∀x,t-r<=x->x<=t+r->bU (e x f)=bU (e t f):=by
 obtain⟨B,hB,ha,hb⟩:=iU (t-1) (t+1);obtain⟨Q,hQ,hl⟩:=lip f B hB
 have hε:∃ε:Rat,0<ε∧jM ε (e t f):=by
  by_cases h0:0<=e t f
  ·exact⟨e t f,aG, .inr Rat.le_refl⟩
  ·exact⟨-e t f,aG, .inl aG⟩
 obtain⟨ε,hε,GK⟩:=hε;have h1:ε/(2*Q)*(2*Q)=ε:=Rat.div_mul_cancel aG;have h2:0<ε/(2*Q):=(Rat.lt_div_iff aG).2 aG;generalize ε/(2*Q)=η at *;obtain⟨r,hr,tB,bE⟩:=min2 (show (0:Rat)<1 by decide) h2;refine⟨r,hr,fun x hx hy=>?_⟩;have z7:Ab x B:=bR ha hb aG aG;have ht':Ab t B:=bR ha hb aG aG;have hrQ:r*Q<=η*Q:=Rat.mul_le_mul_of_nonneg_right bE (Rat.le_of_lt hQ);refine(fJ GK hε fun hn=>?_).1
 by_cases hxt:t<=x
 ·have h3:=hl t x ht' z7 hxt;have h4:(x-t)*Q<=r*Q:=Rat.mul_le_mul_of_nonneg_right aG (Rat.le_of_lt hQ);obtain⟨p1,p2⟩:=h3;rcases hn with hn | hn<;>grind
 ·have h3:=hl x t z7 ht' aG;have h4:(t-x)*Q<=r*Q:=Rat.mul_le_mul_of_nonneg_right aG (Rat.le_of_lt hQ);obtain⟨p1,p2⟩:=h3;rcases hn with hn | hn<;>grind
namespace pF
variable {f:ZX} {v:Rat->Nat} (S:pF f v)
include S
theorem lft(h:e t f≠0)(hat:a<t):∃s,a<=s∧s<t∧v s=v t∧bU (e s f)=bU (e t f):=by obtain⟨B,hB,ha,hb⟩:=iU a t;obtain⟨δ,hδ,hN⟩:=S.o7 B;obtain⟨r1,tB,hc⟩:=aaz h;obtain⟨r2,bE,h1,h2⟩:=min2 hδ (show 0<t-a by grind);obtain⟨r,hr,h3,h4⟩:=min2 tB bE;have hs:Ab (t-r) B:=bR ha hb aG aG;have g1:=hN.turns (t-r) t hs hb aG aG;have g5:=hc (t-r) aG aG;have g4:ind f (t-r) t=0:=if_neg fun hh=>hh.2 g5.symm;exact⟨t-r,aG,aG,aa,g5⟩
theorem small{Q:Rat}(g9:s<t)(hv:v s≠v t)(hQ:0<Q)(hl:∀a b,s<=a->a<=b->b<=t->Ab (e b f-e a f) ((b-a)*Q))(hx:s<=x)(hy:x<=t):Ab (e x f) ((t-s)*Q):=by
 refine Classical.byContradiction fun hn=>hv ?_
 have key:∀y,s<=y->y<=t->bU (e y f)=bU (e x f):=fun y h1 h2=>by
  have h3:Ab (e y f-e x f) ((t-s)*Q):=by
   by_cases pR:x<=y
   ·exact(hl x y hx pR h2).mono (Rat.mul_le_mul_of_nonneg_right aG (Rat.le_of_lt hQ))
   ·have h4:=(hl y x h1 aG hy).mono (Rat.mul_le_mul_of_nonneg_right (show x-y<=t-s by grind) (Rat.le_of_lt hQ));obtain⟨p1,p2⟩:=h4;exact⟨aG,aG⟩
  obtain⟨p1,p2⟩:=h3;have h0:0<=(t-s)*Q:=Rat.mul_nonneg aG (Rat.le_of_lt hQ);generalize (t-s)*Q=M at *
  rcases cP (e x f)with ⟨h5,h6⟩ | ⟨h5,h6⟩ | ⟨h5,h6⟩
  ·rw [h6];refine fY ?_;have:e x f < -M:=Rat.not_le.1 fun h=>hn ⟨h,aG⟩;grind
  ·exact absurd ⟨aG,aG⟩ hn
  ·rw [h6];refine eE ?_;have:M<e x f:=Rat.not_le.1 fun h=>hn ⟨aG,h⟩;grind
 exact S.const g9 (σ:=bU (e x f)) (.inr (key s Rat.le_refl (Rat.le_of_lt g9))) fun y h1 h2=>key y (Rat.le_of_lt h1) h2
end pF
theorem D0{p q:Prop}[Decidable p][Decidable q](h:p↔q):(if p then 1 else 0:Nat)=if q then 1 else 0:=by
 by_cases hp:p
 ·rw [if_pos hp,if_pos (h.1 hp)]
 ·rw [if_neg hp,if_neg (fun hq=>hp (h.2 hq))]
theorem xz{c y z:Rat}(hc:c≠0)(h:c*x=y*z):bU x=bU c*(bU y*bU z):=by
 have h1:bU c*bU x=bU y*bU z:=by rw [<-sP,<-sP,h]
 rw [<-h1]
 rcases cP c with ⟨h2,h3⟩ | ⟨h2,h3⟩ | ⟨h2,h3⟩
 ·rw [h3];omega
 ·exact absurd h2 hc
 ·rw [h3];omega
theorem pF.mul{g h:ZX}{w u:Rat->Nat}(Sf:pF f v)(Sg:pF g w)(Sh:pF h u){c:Int}(hc:c≠0)(he:K c*f=g*h)(atj:rS g h)(g9:s<=t):v s+w t+u t=v t+w s+u s:=by
 rcases Rat.le_iff_lt_or_eq.1 g9 with h1 | rfl
 ·refine ado (P:=fun s t=>v s+w t+u t=v t+w s+u s) (fun a b c h1 h2 p1 p2=>by omega) (fun B hB=>?_) h1;obtain⟨δ1,hδ1,N1⟩:=Sf.o7 B;obtain⟨δ2,hδ2,N2⟩:=Sg.o7 B;obtain⟨δ3,hδ3,N3⟩:=Sh.o7 B;obtain⟨ε,hε,atn⟩:=anD Sg.ne Sh.ne atj B;obtain⟨Q1,hQ1,l1⟩:=lip g B hB;obtain⟨Q2,hQ2,l2⟩:=lip h B hB;have hQ:0<Q1+Q2:=aG;have e1:ε/(2*(Q1+Q2))*(2*(Q1+Q2))=ε:=Rat.div_mul_cancel aG;have e2:0<ε/(2*(Q1+Q2)):=(Rat.lt_div_iff aG).2 aG;generalize ε/(2*(Q1+Q2))=δ4 at *;obtain⟨m1,Gp,a1,a2⟩:=min2 hδ1 hδ2;obtain⟨m2,hm2,a3,a4⟩:=min2 hδ3 e2;obtain⟨δ,hδ,a5,a6⟩:=min2 Gp hm2;refine⟨δ,hδ,fun s t hs ht bZ hd=>?_⟩;have t1:=N1.turns s t hs ht bZ aG;have t2:=N2.turns s t hs ht bZ aG;have t3:=N3.turns s t hs ht bZ aG;have hcq:(c:Rat)≠0:=fun h0=>hc (Rat.intCast_eq_zero_iff.1 h0);have sgm:∀x,bU (e x f)=bU (c:Rat)*(bU (e x g)*bU (e x h)):=fun x=>by refine xz hcq ?_;rw [<-iC,<-he,iC,wN]
  have dl:∀Q,0<Q->Q<=Q1+Q2->(t-s)*Q<ε:=fun Q h0 h1=>by have h2:(t-s)*Q<=δ4*(Q1+Q2):=(by have h3:=Rat.mul_le_mul_of_nonneg_right (show t-s<=δ4 by grind) (Rat.le_of_lt h0);have h4:=Rat.mul_le_mul_of_nonneg_left h1 (Rat.le_of_lt e2);grind);have h5:δ4*(Q1+Q2)*2=ε:=(by rw [<-e1];grind);grind
  have sc:=cP (c:Rat)
  have z6:bU (c:Rat)=1∨bU (c:Rat) = -1:=by
   rcases sc with ⟨_,h⟩ | ⟨h,_⟩ | ⟨_,h⟩
   ·exact .inr h
   ·exact absurd h hcq
   ·exact .inl h
  have ez:∀(p:ZX) x,(e x p≠0)=(bU (e x p)≠0):=fun p x=>propext ⟨fun h h0=>h (eo.1 h0),fun h h0=>h (by rw [h0];exact jd)⟩
  rcases atn s hs with hb | hb
  ·have Gu:=fJ (y:=e t g) hb hε fun hn=>by obtain⟨p1,p2⟩:=l1 s t hs ht (Rat.le_of_lt bZ);have:=dl Q1 hQ1 aG;rcases hn with hn | hn<;>grind
   have i1:ind g s t=0:=if_neg fun hh=>hh.2 Gu.1
   have i2:ind f s t=ind h s t:=by
    refine D0 ?_;rw [ez f s,ez h s,sgm s,sgm t,Gu.1];have:=nK (e s g);have h7:bU (c:Rat)*bU (e s g)=1∨bU (c:Rat)*bU (e s g) = -1:=(by rcases z6 with h | h<;>rw [h]<;>omega);rw [<-Int.mul_assoc,<-Int.mul_assoc]
    rcases h7 with h | h<;>rw [h]
    ·simp only [Int.one_mul]
    ·simp only [Int.neg_mul,Int.one_mul,ne_eq,Int.neg_eq_zero,Int.neg_inj]
   omega
  ·have Gu:=fJ (y:=e t h) hb hε fun hn=>by obtain⟨p1,p2⟩:=l2 s t hs ht (Rat.le_of_lt bZ);have:=dl Q2 hQ2 aG;rcases hn with hn | hn<;>grind
   have i1:ind h s t=0:=if_neg fun hh=>hh.2 Gu.1
   have i2:ind f s t=ind g s t:=by
    refine D0 ?_;rw [ez f s,ez g s,sgm s,sgm t,Gu.1];have:=nK (e s h);have h7:bU (c:Rat)*bU (e s h)=1∨bU (c:Rat)*bU (e s h) = -1:=(by rcases z6 with h | h<;>rw [h]<;>omega);have cm:∀y:Int,bU (c:Rat)*(y*bU (e s h))=bU (c:Rat)*bU (e s h)*y:=fun y=>by grind
    rw [cm,cm]
    rcases h7 with h | h<;>rw [h]
    ·simp only [Int.one_mul]
    ·simp only [Int.neg_mul,Int.one_mul,ne_eq,Int.neg_eq_zero,Int.neg_inj]
   omega
 ·omega
structure j7(f:ZX)(v:Rat->Nat)(lo hi:Rat):Prop where
 S:pF f v
 k:(lo=hi∧e lo f=0)∨(lo<hi∧v lo=v hi+1)
def fS(v:Rat->Nat)(lo hi t:Rat):Prop:=hi<=t∨(lo<t∧v t<v lo)
noncomputable def cr(U:Rat->Prop)(t:Rat):Int:=open Classical in if U t then(if ∃s,s<t∧U s then -1 else 0)else 1
theorem mT:cr U t=1↔¬U t:=by
 unfold cr
 split
 ·rename_i h;split<;>simp [h]
 ·rename_i h;simp [h]
theorem xA(hU:∀s t,U s->s<=t->U t):cr U t = -1 ↔ ∃s,s<t∧U s:=by
 unfold cr
 split
 ·split
  ·rename_i h;simp [h]
  ·rename_i h;simp [h]
 ·rename_i h;refine⟨fun h1=>absurd h1 ar,fun⟨s,h1,h2⟩=>absurd (hU s t h2 (Rat.le_of_lt h1)) h⟩
theorem wj:cr U t=0↔U t ∧ ∀s,s<t->¬U s:=by
 unfold cr
 split
 ·rename_i h
  split
  ·rename_i h2;refine⟨fun h1=>absurd h1 ar,fun⟨_,h3⟩=>?_⟩;obtain⟨s,h4,h5⟩:=h2;exact absurd h5 (h3 s h4)
  ·rename_i h2;exact⟨fun _=>⟨h,fun s h3 h4=>h2 ⟨s,h3,h4⟩⟩,fun _=>rfl⟩
 ·rename_i h;exact⟨fun h1=>absurd h1 ar,fun h1=>absurd h1.1 h⟩
noncomputable def cu(U V:Rat->Prop):Int:=open Classical in if ∃t,U t∧¬V t then -1 else if ∃t,V t∧¬U t then 1 else 0
theorem FU(U:Rat->Prop):cu U U=0:=by unfold cu;rw [if_neg (fun ⟨t,h1,h2⟩=>h2 h1),if_neg (fun ⟨t,h1,h2⟩=>h2 h1)]
theorem OC{V:Rat->Prop}:cu U V=0 ↔ ∀t,U t↔V t:=by
 unfold cu
 split
 ·rename_i h;refine⟨fun h1=>absurd h1 ar,fun h1=>?_⟩;obtain⟨t,h2,h3⟩:=h;exact absurd ((h1 t).1 h2) h3
 ·rename_i h
  split
  ·rename_i h';refine⟨fun h1=>absurd h1 ar,fun h1=>?_⟩;obtain⟨t,h2,h3⟩:=h';exact absurd ((h1 t).2 h2) h3
  ·rename_i h';exact⟨fun _ t=>⟨fun h1=>Classical.byContradiction fun h2=>h ⟨t,h1,h2⟩,fun h1=>Classical.byContradiction fun h2=>h' ⟨t,h1,h2⟩⟩,fun _=>rfl⟩
theorem dZ{lo hi:Rat}:fS v lo hi hi:=.inl Rat.le_refl
namespace j7
variable {f:ZX} {v:Rat->Nat} {lo hi:Rat} (A:j7 f v lo hi)
include A
theorem le:lo<=hi:=by
 rcases A.k with ⟨h,_⟩ | ⟨h,_⟩
 ·rw [h];exact Rat.le_refl
 ·exact Rat.le_of_lt h
theorem up(h:fS v lo hi s)(g9:s<=t):fS v lo hi t:=by
 rcases h with h | ⟨h1,h2⟩
 ·exact .inl aG
 ·have:=A.S.bI g9;exact .inr ⟨aG,aa⟩
theorem gk(h:t<lo∨(t=lo∧lo<hi)):¬fS v lo hi t:=by have:=A.le;rintro(h1 | ⟨h1,_⟩)<;>grind
theorem anE(t:Rat):cr (fS v lo hi) t=if lo=hi then(if lo<t then -1 else if t<lo then 1 else 0)else if t<=lo then 1 else if hi<t then -1 else if v lo=v t then 1 else if e t f=0 then 0 else -1:=by
 have hup:=fun s t (h:fS v lo hi s) (h':s<=t)=>A.up h h';have hle:=A.le
 split
 ·rename_i h;subst h;have hU:∀t,fS v lo lo t↔lo<=t:=fun t=>⟨fun h=>by rcases h with h | h<;>grind,fun h => .inl h⟩
  split
  ·exact(xA hup).2 ⟨lo,by assumption, .inl Rat.le_refl⟩
  ·split
   ·exact mT.2 (fun h=>by have:=(hU t).1 h;grind)
   ·exact wj.2 ⟨.inl aG,fun s h1 h2=>by have:=(hU s).1 h2;grind⟩
 ·rename_i km;have bZ:lo<hi:=aG
  have hk:v lo=v hi+1:=by
   rcases A.k with ⟨h,_⟩ | ⟨_,h⟩
   ·exact absurd h km
   ·exact h
  split
  ·rename_i h;exact mT.2 (A.gk aG)
  ·rename_i h1
   split
   ·rename_i h2;exact(xA hup).2 ⟨hi,h2,dZ⟩
   ·rename_i h2;have b1:=A.S.bI (show lo<=t by grind);have b2:=A.S.bI (show t<=hi by grind)
    split
    ·rename_i h3;refine mT.2 ?_
     rintro(h4 | ⟨_,h4⟩)
     ·have:t=hi:=(by grind);subst this;omega
     ·omega
    ·rename_i h3
     split
     ·rename_i h4;refine wj.2 ⟨.inr ⟨aG,aa⟩,fun s h5 h6=>?_⟩;have h7:=A.S.root h5 h4
      rcases h6 with h6 | ⟨h6,h8⟩
      ·grind
      ·omega
     ·rename_i h4;obtain⟨s,h5,h6,h7,_⟩:=A.S.lft h4 (show lo<t by grind);refine(xA hup).2 ⟨s,h6, .inr ⟨?_,aa⟩⟩
      rcases Rat.le_iff_lt_or_eq.1 h5 with h8 | rfl
      ·exact h8
      ·omega
theorem half{m:Rat}(h1:lo<m)(h2:m<hi):(v m<v lo->j7 f v lo m ∧ ∀t,fS v lo m t↔fS v lo hi t)∧(¬v m<v lo->j7 f v m hi ∧ ∀t,fS v m hi t↔fS v lo hi t):=by
 have hk:v lo=v hi+1:=by
  rcases A.k with ⟨h,_⟩ | ⟨_,h⟩
  ·grind
  ·exact h
 have b1:=A.S.bI (Rat.le_of_lt h1);have b2:=A.S.bI (Rat.le_of_lt h2)
 refine⟨fun h=>⟨⟨A.S, .inr ⟨h1,aa⟩⟩,fun t=>⟨?_,?_⟩⟩,fun h=>⟨⟨A.S, .inr ⟨h2,aa⟩⟩,fun t=>⟨?_,?_⟩⟩⟩
 ·rintro(h3 | h3)
  ·have:=A.S.bI h3;exact .inr ⟨aG,aa⟩
  ·exact .inr h3
 ·rintro(h3 | h3)
  ·exact .inl aG
  ·exact .inr h3
 ·rintro(h3 | ⟨h3,h4⟩)
  ·exact .inl h3
  ·exact .inr ⟨aG,aa⟩
 ·rintro(h3 | ⟨h3,h4⟩)
  ·exact .inl h3
  ·refine .inr ⟨?_,aa⟩;refine Rat.not_le.1 fun h5=>?_;have:=A.S.bI h5;omega
theorem exact(h:e hi f=0):j7 f v hi hi ∧ ∀t,fS v hi hi t↔fS v lo hi t:=by
 refine⟨⟨A.S, .inl ⟨rfl,h⟩⟩,fun t=>⟨?_,?_⟩⟩
 ·rintro(h3 | ⟨h3,_⟩)
  ·exact .inl h3
  ·exact .inl aG
 ·rintro(h3 | ⟨h3,h4⟩)
  ·exact .inl h3
  ·refine .inl (Rat.not_lt.1 fun h5=>?_);have h6:=A.S.root h5 h
   rcases A.k with ⟨h7,_⟩ | ⟨_,h7⟩
   ·grind
   ·omega
end j7
end ZX
end Pm
namespace Pm
open Go Go.RowKit List
variable {id:Nat}
section
variable {E:Env} {w0:World} {S0:dz} {n:Nat} {G:Gs}
theorem CM{tl:Nat}{ops:Array Oper}{T:PS->Prop}{Q:Exit->Act->World->Prop}(ec:pS E n tl ops true=true)(Yp:tl≠0){σ:PS}{a:Act}{w:World}
  (h:aV E ops.toList σ.clock 0 (ops.toList.take (ops.size-tl)) T ⟨σ.f,σ.rows,fun _ _=>False,fun _ _=>False⟩) (hR:Rel w0 S0 n G σ a w)
  (hT:∀σ' a' w',T σ'->Rel w0 S0 n G σ' a' w'->wpList E.P ops Q (ops.toList.drop (ops.size-tl)) a' w'):(Code.region id ops true).wp E.P Q a w:=by
 simp only [pS,Bool.and_eq_true,Bool.not_true,Bool.false_or]at ec;obtain⟨yF,tF,ec⟩:=ec;have hd:∀o,o∈ops -> ∀t,o.dst=some t->t<n:=by intro o ho t ht;have:=Array.all_eq_true_iff_forall_mem.1 yF o ho;simpa [ht]using this
 refine wp_region_any E.mixed ?_;have Ap:=hR.drew;have hU0:∀k (l:Array Bool),ou w0 S0 n G (Ul E ops σ.clock k l) σ.f σ.rows a { w with drawn:=w.drawn+1 }:=fun k l=>Ap.mono fun v hv => .inl hv;have Yo:∀(l:List Oper),tS E l=true -> ∀(i:Nat) (oi:Oper),l[i]? = some oi->dC E oi.op=true->oi.dst.isSome=true:=fun l h i oi hi hn=>by have:=all_eq_true.1 h oi (mem_of_getElem? hi);rw [hn]at this;simp at this;exact Option.isSome_iff_exists.2 (by obtain⟨x,hx⟩:=Option.isSome_iff_exists.1 this.1;exact⟨x,hx⟩)
 rw [if_neg Yp]at ec tF;have oT:∀i oi,i<ops.size-tl->ops[i]? = some oi->dC E oi.op=true->oi.dst.isSome=true:=fun i oi h1 hi=>Yo _ tF i oi (by rw [getElem?_take,if_pos h1];simpa using hi);simp only [Bool.and_eq_true,decide_eq_true_eq]at ec;obtain⟨hle,hB⟩:=ec;simp only [Region.lexTailB,Bool.and_eq_true,decide_eq_true_eq]at hB;obtain⟨⟨⟨⟨aq2,wX⟩,hs⟩,hc⟩,aeh⟩:=hB;have hl:=oB (c0:=σ.clock) (ops.toList.take (ops.size-tl)) 0 _ _ (fun j hj=>by have JP:j<ops.size-tl:=au hj;simp [JP]) tF (by simp [rk]) h
 have J0:HeadInv .any ops (ops.size-tl) (Array.replicate ops.size false):=
  ⟨av,fun j oj _ hl=>(by rw [getD_replicate_false]at hl;cases hl),fun t _ ht=>getD_in (au ht) (getD_replicate_false _ _)⟩
 have wH:(ops.toList.take (ops.size-tl)).length=ops.size-tl:=av;have Tc:(ops.toList.drop (ops.size-tl)).length=ops.size-(ops.size-tl):=av;have H:=ss (E:=E) (md:=.any) (n:=ops.size-tl) (g:=ops.size-(ops.size-tl)) oT (fun ao inv i hi mY t ht=>tail_waits hs hc wX inv _ i rfl hi mY t ht) (ops.toList.take (ops.size-tl)) 0 _ _ (fun j hj=>by rw [wH]at hj;simp [hj]) (by rw [wH];simp) J0 (by rw [wH];exact aeh) hl;have:=kI (E:=E) (md:=.any) (g:=ops.size-(ops.size-tl)) (Q:=Q) (m:=n) hd (fun ao st a' w' hL gR=>by obtain⟨h1,h2⟩:=hL;have h3:=hT _ a' w' h2 (gR.mono fun v hv=>by have:=JZ hv;simpa using this);have h4:=wpAny_of_seq (md:=.any) (Q':=Q) (ops.toList.drop (ops.size-tl)) (ops.size-tl) ao a' w' (fun j=>by simp [getElem?_drop]) (by rw [Tc];exact h1) h3;rwa [Tc]at h4) _ _ _ _ _ av H (hU0 _ _);rw [wH,show ops.size-tl+(ops.size-(ops.size-tl))=ops.size by omega]at this;exact this
end
theorem W.anF{E:Env}{n:Nat}{tl:Nat->Nat}{Q:PX->PS->Prop}{f:Nat->PV}{rows:Rows}{clk:Nat}{ops:List Oper}{y:Code}(m:Nat){o:Oper}{r:List Oper}(hm:tl id=m+1)(ho:ops.drop (ops.length-(m+1))=o::r)(hg:o.guard=none)
  (h:∀K:PS->Prop,(∀σ,W E n tl y Q σ->K σ)->go (aV E ops clk 0 (ops.take (ops.length-(m+1))) (fun σ=>CF E o (aC E ops r K) σ) ⟨f,rows,fun _ _=>False,fun _ _=>False⟩)):W E n tl (.seq (.region id ops.toArray true) y) Q ⟨f,rows,clk⟩:=by
 refine W.seq ?_;intro ec w0 S0 G a w Q' hR hQ;have agW:pS E n (tl id) ops.toArray true=true:=by simpa [dQ]using ec
 have hd:∀o∈ops,∀t,o.dst=some t->t<n:=fun o ho t ht=>by simp only [pS,Bool.and_eq_true]at agW;have:=Array.all_eq_true_iff_forall_mem.1 agW.1 o (au ho);simpa [ht]using this
 have h1:=h (fun σ=>W E n tl y Q σ) fun _ h=>h;have lA:∀x∈o::r,x∈ops:=fun x hx=>by rw [<-ho]at hx;exact mem_of_mem_drop hx
 refine CM (T:=fun σ=>CF E o (aC E ops r (fun σ=>W E n tl y Q σ)) σ) agW aa (by rw [hm];exact h1) hR fun σ' a' w' hT gR=>?_;rw [hm];have e:ops.toArray.toList.drop (ops.toArray.size-(m+1))=o::r:=au ho;rw [e];unfold wpList;rw [if_pos (by simp [Region.wanted,hg])];refine .inl (uk hT gR (hd o (lA o av)) fun σ2 a2 w2 hk JY=>?_);exact ik (E:=E) (ops:=ops.toArray) (fun σ3 a3 w3 XP hR3=>hQ .normal σ3 a3 w3 XP hR3) _ σ2 a2 w2 (fun o ho=>hd o (lA o (by simp [ho]))) hk JY
end Pm
namespace Go.Proofs.YtiobceocpabjdaaGreat
open Go Pm List
open ZX hiding N W
variable {β k D j d u n s:Nat}{c:List ZX}{lo hi δ B q:Rat}{f:ZX}{l:List (Rat × Rat)}
theorem kR{α β:Type}{c:Prop}[Decidable c](f g:α->β)(x:α):(if c then f else g) x=if c then f x else g x:=by split<;>rfl
def Cd(v:Rat->Nat):Nat->Rat->Rat->List (Rat × Rat)
 | 0,lo,hi=>if v lo=v hi then []else [(lo,hi)]
 | k+1,lo,hi=>if v lo=v hi then []else if v lo=v hi+1 then [(lo,hi)]else Cd v k lo ((lo+hi)/2)++Cd v k ((lo+hi)/2) hi
theorem oh(h:lo<hi):lo<(lo+hi)/2∧(lo+hi)/2<hi:=by have h1:(lo+hi)/2*2=lo+hi:=Rat.div_mul_cancel ar;exact⟨aG,aG⟩
theorem rT(h:hi-lo<=δ*2^(k+1)):(lo+hi)/2-lo<=δ*2^k∧hi-(lo+hi)/2<=δ*2^k:=by have h1:(lo+hi)/2*2=lo+hi:=Rat.div_mul_cancel ar;rw [Rat.pow_succ]at h;generalize (2:Rat)^k=p at *;exact⟨aG,aG⟩
structure Gr(D:Nat)(B:Rat)(j:Nat)(q:Rat):Prop where
 z:∃z:Int,q*((D*2^j:Nat):Int)=(z:Rat)
 b:Ab q B
theorem Gr.mono{i:Nat}(h:Gr D B i q)(qy:i<=j):Gr D B j q:=by
 obtain⟨⟨z,hz⟩,hb⟩:=h;obtain⟨k,rfl⟩:∃k,j=i+k:=⟨j-i,aa⟩
 refine⟨⟨z*(2^k:Nat),?_⟩,hb⟩;rw [Rat.intCast_mul,<-hz,Nat.pow_add,<-Nat.mul_assoc,Int.natCast_mul (D*2^i),Rat.intCast_mul];grind
theorem Gr.A3{p:Rat}(hp:Gr D B j p)(hq:Gr D B j q):Gr D B (j+1) ((p+q)/2):=by obtain⟨⟨y,hy⟩,b1,b2⟩:=hp;obtain⟨⟨z,hz⟩,b3,b4⟩:=hq;have h1:(p+q)/2*2=p+q:=Rat.div_mul_cancel ar;refine⟨⟨y+z,?_⟩,aG,aG⟩;rw [Rat.intCast_add,<-hy,<-hz,Nat.pow_succ,<-Nat.mul_assoc,Int.natCast_mul (D*2^j),Rat.intCast_mul];have h2:(((2:Nat):Int):Rat)=2:=rfl;rw [h2];generalize (((D*2^j:Nat):Int):Rat)=M at *;grind
theorem Gr.sq(h:Gr D (2^β) j q)(h0:1<=D)(hD:D<=2^d):SQ (β+d+j+1) q:=by
 obtain⟨⟨z,hz⟩,hb⟩:=h;have hM:1<=D*2^j:=Nat.mul_pos h0 (Nat.two_pow_pos _);have hM2:D*2^j<=2^(d+j):=by rw [Nat.pow_add];exact Nat.mul_le_mul_right _ hD
 have hMq:(0:Rat)<(((D*2^j:Nat):Int):Rat):=Rat.intCast_pos.2 aa
 have hzb:z.natAbs<=2^(β+d+j):=by
  have h1:Ab (z:Rat) (((2^β*(D*2^j):Nat):Int):Rat):=by rw [<-hz,Int.natCast_mul (2^β),Rat.intCast_mul,FR];exact hb.mul ⟨aG,Rat.le_refl⟩
  obtain⟨h2,h3⟩:=h1;rw [<-Rat.intCast_neg]at h2;have h4:=Rat.intCast_le_intCast.1 h2;have h5:=Rat.intCast_le_intCast.1 h3;have h6:2^β*(D*2^j)<=2^(β+d+j):=by rw [Nat.add_assoc,Nat.pow_add];exact Nat.mul_le_mul_left _ hM2
  omega
 have e:=FL (n:=z) (d:=((D*2^j:Nat):Int)) aa hz.symm;have km:((D*2^j:Nat):Int)≠0:=aa;have Qv:=o9 z ((D*2^j:Nat):Int) km;have GV:=pg z ((D*2^j:Nat):Int) km;rw [if_neg aa]at Qv GV;rw [e]at Qv GV;have b1:q.num.natAbs<=z.natAbs:=by rw [Qv];exact Int.natAbs_ediv_le_natAbs _ _
 have b2:((q.den:Int)).natAbs<=D*2^j:=by rw [GV];exact Nat.le_trans (Int.natAbs_ediv_le_natAbs _ _) aa
 have hp:∀i,2^i<2^(i+1):=fun i=>Nat.pow_lt_pow_right ar aa;refine⟨dp ar (Nat.lt_of_le_of_lt (Nat.le_trans b1 hzb) (hp _)),dp ar (Nat.lt_of_le_of_lt (Nat.le_trans b2 hM2) ?_),aa⟩;exact Nat.pow_lt_pow_right ar aa
structure Cut(v:Rat->Nat)(B δ:Rat):Prop where
 bI:∀a b,a<=b->v b<=v a
 o7:∀a b,Ab a B->Ab b B->a<b->b-a<=δ->v a<=v b+1
theorem Cut.leaf{v:Rat->Nat}(C:Cut v B δ)(pP:Ab lo B)(CU:Ab hi B)(h:lo<hi)(hd:hi-lo<=δ)(km:v lo≠v hi):v lo=v hi+1:=by have:=C.o7 lo hi pP CU h hd;have:=C.bI lo hi (Rat.le_of_lt h);omega
theorem nR{v:Rat->Nat}{D:Nat}{B δ:Rat}(C:Cut v B δ):∀(k j:Nat) (lo hi:Rat),Gr D B j lo->Gr D B j hi->lo<hi->hi-lo<=δ*2^k ->
  (∀p∈Cd v k lo hi,Gr D B (j+k) p.1∧Gr D B (j+k) p.2∧lo<=p.1∧p.1<p.2∧p.2<=hi∧v p.1=v p.2+1)∧(Cd v k lo hi).length=v lo-v hi∧(Cd v k lo hi).Pairwise fun p q=>p.2<=q.1
 | 0,j,lo,hi,g1,g2,h,hd=>by
  rw [Cd]
  split
  ·rename_i he;exact⟨fun p hp=>absurd hp not_mem_nil,by rw [he];simp,List.Pairwise.nil⟩
  ·rename_i he;have:=C.leaf g1.b g2.b h (by rw [Rat.pow_zero,Rat.mul_one]at hd;exact hd) he;refine⟨fun p hp=>?_,by simp;omega,pairwise_singleton _ _⟩;rw [mem_singleton]at hp;subst hp;exact⟨g1,g2,Rat.le_refl,h,Rat.le_refl,this⟩
 | k+1,j,lo,hi,g1,g2,h,hd=>by
  rw [Cd]
  split
  ·rename_i he;exact⟨fun p hp=>absurd hp not_mem_nil,by rw [he];simp,List.Pairwise.nil⟩
  ·rename_i he
   split
   ·rename_i Bw;refine⟨fun p hp=>?_,by simp;omega,pairwise_singleton _ _⟩;rw [mem_singleton]at hp;subst hp;exact⟨g1.mono aa,g2.mono aa,Rat.le_refl,h,Rat.le_refl,Bw⟩
   ·obtain⟨m1,m2⟩:=oh h;obtain⟨d1,d2⟩:=rT hd;have gm:=g1.A3 g2;obtain⟨a1,a2,a3⟩:=nR C k (j+1) lo ((lo+hi)/2) (g1.mono aa) gm m1 d1;obtain⟨b1,b2,b3⟩:=nR C k (j+1) ((lo+hi)/2) hi gm (g2.mono aa) m2 d2;have n1:=C.bI lo ((lo+hi)/2) (Rat.le_of_lt m1);have n2:=C.bI ((lo+hi)/2) hi (Rat.le_of_lt m2);rw [show j+1+k=j+(k+1)by omega]at a1 b1;generalize (lo+hi)/2=m at *
    refine⟨fun p hp=>?_,by rw [length_append,a2,b2];omega,pairwise_append.2 ⟨a3,b3,fun p hp q hq=>?_⟩⟩
    ·rcases mem_append.1 hp with hp | hp
     ·obtain⟨c1,c2,c3,c4,c5,c6⟩:=a1 p hp;exact⟨c1,c2,c3,c4,aG,c6⟩
     ·obtain⟨c1,c2,c3,c4,c5,c6⟩:=b1 p hp;exact⟨c1,c2,aG,c4,c5,c6⟩
    ·obtain⟨c1,c2,c3,c4,c5,c6⟩:=a1 p hp;obtain⟨d1,d2,d3,d4,d5,d6⟩:=b1 q hq;grind
theorem SQ.mono{w:Nat}(h:SQ u q)(hu:u<=w):SQ w q:=⟨Nat.le_trans h.n2 hu,Nat.le_trans h.d2 hu,Nat.le_trans h.hu hu⟩
theorem SQ.LLs(h:SQ u q)(hu:u<=k):sz LL q.num<=k∧sz LL (q.den:Int)<=k:=⟨Nat.le_trans h.nL hu,Nat.le_trans h.dL hu⟩
theorem SQ.LLt(h:SQ u q)(hu:u<k):sz LL q.num<k∧sz LL (q.den:Int)<k:=⟨Nat.lt_of_le_of_lt h.nL hu,Nat.lt_of_le_of_lt h.dL hu⟩
structure kS(s n:Nat)(f:ZX):Prop where
 lay:p9 s n f
 qe:1<=n
 nf:Nf f
 sq:Go.Proofs.YtiobceocpabjdaaGreat.sq f=f
 hs:s<=5000000
namespace kS
variable {s n:Nat} {f:ZX} (I:kS s n f)
include I
theorem ch:Ch s n f:=⟨I.lay.bz,I.lay.hn,I.qe,Nat.le_trans (Nat.mul_le_mul_right _ (by unfold qb;omega)) I.lay.hC⟩
theorem s1:1<=s:=by
 have h1:=I.lay.hs;have h2:=I.qe
 rcases Nat.eq_zero_or_pos s with h | h
 ·rw [h]at h1;simp at h1;omega
 ·exact h
theorem hb:∀p∈aH f,BZ 4500000000 n p:=I.ch.all.1
theorem hl:(aH f).length<=21:=I.ch.all.2
theorem gz1:gz f (bQ f)=1:=by have:=Ox I.nf.ne;rwa [I.sq]at this
theorem DZ:rS f (bQ f):=fun d h1 h2=>by have h3:=(ek f (bQ f)).least h1 h2;rw [I.gz1]at h3;have:=h3.j2 ZX.mJ;rwa [ZX.tL]at this
theorem FI:ur (aH f) f:=I.ch.FI I.nf.ne I.gz1
theorem S:pF f (vt (aH f)):=⟨I.nf.ne,I.DZ,_,I.FI,rfl⟩
theorem szf:∀c∈f.l,c.natAbs<=2^s:=fun c hc=>by have h1:=iu (b:=2) ar c;have h2:=Nat.pow_le_pow_right (show 0<2 by decide) (I.ch.bz.sz c hc);omega
theorem cut(β:Nat):∃δ:Rat,0<δ∧δ*2^lk s n 5 β=1∧Cut (vt (aH f)) (2^β) δ:=by obtain⟨δ,h1,h2⟩:=BL (lk s n 5 β);have hn:=I.ch.hn;obtain⟨h3,_⟩:=sU I.FI (s:=s) (n:=n) (l:=5) (β:=β) I.nf.ne I.szf I.ch.bz.N aa I.DZ (by rw [h2];exact Rat.le_refl);refine⟨δ,h1,h2,fun a b fm=>I.FI.bI fm,fun a b ha hb fm hd=>?_⟩;have:=h3.turns a b ha hb fm hd;rcases FT f a b with h4 | h4<;>omega
end kS
section
variable {c:List ZX} {n u:Nat} {p q:Rat} (hb:∀p∈c,BZ 4500000000 n p) (hn:n<=20) (hl:c.length<=21) (hp:SQ u p) (hq:SQ u q) (hu:u<=1000000000)
include hb hn hl hp hq hu
theorem We:aj 88 [CH c,RT p,RT q] (ae (if q<p then 0 else(vt c p:Int)-vt c q)):=by have z1:=cX hq.nL hq.dL hp.nL hp.dL aa (aX q) (aX p) ⟨hq.nL,hq.dL⟩ ⟨hp.nL,hp.dL⟩;have b1:=FD aa z1 (V3 hb hn hl hp hu) (V3 hb hn hl hq hu);rw [BF,BF]at b1;simp only [jF]at b1;exact b1
theorem LO:aj 76 [aw zq c,RR p,RR q] (ae (if q<p then 0 else(vt c p:Int)-vt c q)):=by
 have yy:∀ {v:Int},sz 2 v<=u->sz 2 v<=YY:=fun h=>by simp only [YY];omega
 have b1:=IA (yy hp.n2) (yy hp.d2) (yy hq.n2) (yy hq.d2) aa (V2 hb hn hl hp hu) (V2 hb hn hl hq hu);have Pe:(q.num*(p.den:Int)<p.num*(q.den:Int))=(q<p):=propext (by rw [<-jF];exact kZ.symm);rw [BF,BF]at b1;simp only [Pe]at b1;rw [bW,bW];exact b1
end
abbrev tc(q:Rat):List PV:=[.bool (decide (q.num<0)),us (aI LL q.num.natAbs), .bool (decide ((q.den:Int)<0)),us (aI LL (q.den:Int).natAbs)]
def ga(f:ZX)(p:Rat × Rat):List PV:=Po f.l::(tc p.1++tc p.2)
@[simp] theorem atp{p:Rat × Rat}:ga f p=Po f.l::(tc p.1++tc p.2):=rfl
@[simp] theorem xB:bC 9 (emap (ga f) l)=True:=cE fun _=>rfl
@[simp] theorem agY{v e:Nat}:da (some ⟨v,e,n,emap (ga f) l⟩)=True:=ck fun _=>rfl
theorem FV:∀x∈emap (ga f) l,∀p∈x,aF p=true:=fun x hx p hp=>by simp only [emap,List.mem_map]at hx;obtain⟨r,_,rfl⟩:=hx;simp at hp;rcases hp with rfl | rfl | rfl | rfl | rfl | rfl | rfl | rfl | rfl<;>rfl
theorem Wf:gS env.P 72 [Po f.l,CH c,RT lo,RT hi,ae 0] 54 9 []:=by
 show gS env.P _ [Po f.l, .rd [aw zp c],T2 lo.num lo.den,T2 hi.num hi.den,ae 0] _ _ _;generalize lo.num=ln,(lo.den:Int)=ld,hi.num=hn,(hi.den:Int)=hd,aw zp c=X at *;refine iy (E:=env) (fun id=>if id=5 then 2 else if id=8 then 2 else 0) (t:=10) [(0,Po f.l),(1, .rd [X]),(2,T2 ln ld),(3,T2 hn hd),(4,ae 0)] Tryz.func72 rfl bX bX (show 5<=48 by decide) rfl av ?_;apply aR [0,1,4,7,8];apply dU [0,1,4,7,8,13]
 apply fi [0,1,4,7,8,13,14]<;>intro h
 ·apply aR [10];refine W.nil 10 10 54 9 av ar fun K hK=>?_;simp;refine hK _ ?_;apply W.ret;exact⟨10,_,by simp;exact rfl,av,fun x hx=>by cases hx⟩
 ·simp at h
theorem aaA(I:kS s n f)(q1:SQ u lo)(q2:SQ u hi)(hu:u<=1000000000):gS env.P 72 [Po f.l,CH c,RT lo,RT hi,ae 1] 54 9 (emap (ga f) [(lo,hi)]):=by
 have N1:=dW (x:=f.l) (I.ch.bz.pb (by have:=I.hs;omega) (by have:=I.ch.hn;omega));rw [f.c]at N1;obtain⟨l1,l2⟩:=q1.LLt (show u<1099511627770 by omega);obtain⟨l3,l4⟩:=q2.LLt (show u<1099511627770 by omega);have M1:=vX l1 l2;have M2:=vX l3 l4;rw [aX]at M1 M2;rw [show emap (ga f) [(lo,hi)] = [Po f.l::(tc lo++tc hi)]from rfl];show gS env.P _ [Po f.l, .rd [aw zp c],T2 lo.num lo.den,T2 hi.num hi.den,ae 1] _ _ _
 replace M1:aj 90 [T2 lo.num lo.den, .sl []] (T2 lo.num lo.den):=M1
 replace M2:aj 90 [T2 hi.num hi.den, .sl []] (T2 hi.num hi.den):=M2
 clear l1 l2 l3 l4 q1 q2;simp only [tc];generalize lo.num=ln,(lo.den:Int)=ld,hi.num=hn,(hi.den:Int)=hd,aw zp c=X at *;refine iy (E:=env) (fun id=>if id=5 then 2 else if id=8 then 2 else 0) (t:=10) [(0,Po f.l),(1, .rd [X]),(2,T2 ln ld),(3,T2 hn hd),(4,ae 1)] Tryz.func72 rfl bX bX (show 5<=48 by decide) rfl av ?_;apply aR [0,1,4,7,8];apply dU [0,1,4,7,8,13]
 apply fi [0,1,4,7,8,13,14]<;>intro h
 ·simp at h
 ·apply fi [0,1,4,7,8,16]<;>intro h
  ·refine W.anF 1 rfl rfl rfl fun K hK=>?_;apply eO N1 M1;apply my M2;refine W.lw [10] hK ?_;clear hK K;simp;apply W.ret;exact⟨25,_,by simp;exact rfl,av,fun x hx p hp=>by simp at hx;subst hx;simp at hp;rcases hp with rfl | rfl | rfl | rfl | rfl | rfl | rfl | rfl | rfl<;>rfl⟩
  ·simp at h
theorem Wg{n k:Int}{la lb:List (Rat × Rat)}(hn:2<=n∧n<=21)(hk:0<=k∧k<=n)(KJ:la.length<=21)(hlb:lb.length<=21)
  (M:aj 91 [RT lo,RT hi] (RT ((lo+hi)/2))) (B:aj 88 [CH c,RT lo,RT ((lo+hi)/2)] (ae k))
  (h1:gS env.P 72 [Po f.l,CH c,RT lo,RT ((lo+hi)/2),ae k] 54 9 (emap (ga f) la)) (h2:gS env.P 72 [Po f.l,CH c,RT ((lo+hi)/2),RT hi,ae (n-k)] 54 9 (emap (ga f) lb)) :
  gS env.P 72 [Po f.l,CH c,RT lo,RT hi,ae n] 54 9 (emap (ga f) (la++lb)):=by
 rw [<-xW];have el1:(emap (ga f) la).length<=21:=by simpa [emap]using KJ
 have el2:(emap (ga f) lb).length<=21:=by simpa [emap]using hlb
 have p1:=FV (f:=f) (l:=la);have p2:=FV (f:=f) (l:=lb);have a1:bC 9 (emap (ga f) la)=True:=xB;have a2:bC 9 (emap (ga f) lb)=True:=xB;show gS env.P _ [Po f.l, .rd [aw zp c],T2 lo.num lo.den,T2 hi.num hi.den,ae n] _ _ _
 replace M:aj 91 [T2 lo.num lo.den,T2 hi.num hi.den] (T2 ((lo+hi)/2).num ((lo+hi)/2).den):=M
 replace B:aj 88 [.rd [aw zp c],T2 lo.num lo.den,T2 ((lo+hi)/2).num ((lo+hi)/2).den] (ae k):=B
 replace h1:gS env.P 72 [Po f.l, .rd [aw zp c],T2 lo.num lo.den,T2 ((lo+hi)/2).num ((lo+hi)/2).den,ae k] 54 9 (emap (ga f) la):=h1
 replace h2:gS env.P 72 [Po f.l, .rd [aw zp c],T2 ((lo+hi)/2).num ((lo+hi)/2).den,T2 hi.num hi.den,ae (n-k)] 54 9 (emap (ga f) lb):=h2
 generalize ((lo+hi)/2).num=mn,(((lo+hi)/2).den:Int)=md,lo.num=ln,(lo.den:Int)=ld,hi.num=wX,(hi.den:Int)=hd,aw zp c=X,emap (ga f) la=ea,emap (ga f) lb=eb at *;have w1:IntKind.wrap .i64 (n-k)=n-k:=wrap_i64 aa aa;refine iy (E:=env) (fun id=>if id=5 then 2 else if id=8 then 2 else 0) (t:=10) [(0,Po f.l),(1, .rd [X]),(2,T2 ln ld),(3,T2 wX hd),(4,ae n)] Tryz.func72 rfl bX bX (show 5<=48 by decide) rfl av ?_;apply aR [0,1,4,7,8];apply dU [0,1,4,7,8,13]
 apply fi [0,1,4,7,8,13,14]<;>intro h
 ·simp at h;omega
 ·apply fi [0,1,4,7,8,16]<;>intro h
  ·simp at h;omega
  ·apply rf M [0,1,4,7,8,11];apply gT B [0,1,4,7,8,11,12];apply W.sd;rw [show(if 8=5 then 2 else if 8=8 then 2 else 0)=1+1 from rfl,fc];apply (cp);refine xU h1 rfl trivial ?_;simp (disch:=omega) [gw,w1,kR];refine xU h2 rfl trivial ?_;simp (disch:=omega) [gw,a1,a2,kR];apply c9 [10];apply W.ret
   exact⟨38,5,av,av,fun x hx=>by
    rcases List.mem_append.1 hx with hx | hx
    ·exact p1 x hx
    ·exact p2 x hx⟩
theorem Wh(I:kS s n f){J:Nat}(wL:1<=D)(hD:D<=2^d)(C:Cut (vt (aH f)) (2^β) δ)(hu:β+d+J+1<=1000000000):∀(k j:Nat) (lo hi:Rat),j+k<=J->Gr D (2^β) j lo->Gr D (2^β) j hi->lo<hi->hi-lo<=δ*2^k ->
  gS env.P 72 [Po f.l,CH (aH f),RT lo,RT hi,ae ((vt (aH f) lo:Int)-vt (aH f) hi)] 54 9 (emap (ga f) (Cd (vt (aH f)) k lo hi)):=by
 have leaf:∀(j:Nat) (lo hi:Rat),j<=J->Gr D (2^β) j lo->Gr D (2^β) j hi->vt (aH f) lo=vt (aH f) hi+1->gS env.P 72 [Po f.l,CH (aH f),RT lo,RT hi,ae ((vt (aH f) lo:Int)-vt (aH f) hi)] 54 9 (emap (ga f) [(lo,hi)]):=fun j lo hi hj g1 g2 he=>by rw [show(vt (aH f) lo:Int)-vt (aH f) hi=1 by omega];exact aaA I ((g1.mono hj).sq wL hD) ((g2.mono hj).sq wL hD) hu
 have IK:∀(lo hi:Rat),vt (aH f) lo=vt (aH f) hi->gS env.P 72 [Po f.l,CH (aH f),RT lo,RT hi,ae ((vt (aH f) lo:Int)-vt (aH f) hi)] 54 9 (emap (ga f) []):=fun lo hi he=>by rw [show(vt (aH f) lo:Int)-vt (aH f) hi=0 by omega];exact Wf
 intro k
 induction k with
 | zero =>
  intro j lo hi hj g1 g2 bZ hd;rw [Cd]
  by_cases he:vt (aH f) lo=vt (aH f) hi
  ·rw [if_pos he];exact IK lo hi he
  ·rw [if_neg he];exact leaf j lo hi aa g1 g2 (C.leaf g1.b g2.b bZ (by rw [Rat.pow_zero,Rat.mul_one]at hd;exact hd) he)
 | succ k ih =>
  intro j lo hi hj g1 g2 bZ hd;rw [Cd]
  by_cases he:vt (aH f) lo=vt (aH f) hi
  ·rw [if_pos he];exact IK lo hi he
  ·rw [if_neg he]
   by_cases Bw:vt (aH f) lo=vt (aH f) hi+1
   ·rw [if_pos Bw];exact leaf j lo hi aa g1 g2 Bw
   ·rw [if_neg Bw];obtain⟨m1,m2⟩:=oh bZ;obtain⟨d1,d2⟩:=rT hd;have gm:=g1.A3 g2;have n1:=C.bI lo ((lo+hi)/2) (Rat.le_of_lt m1);have n2:=C.bI ((lo+hi)/2) hi (Rat.le_of_lt m2);have hv1:=Nat.le_trans (V5 (aH f) lo) I.hl;obtain⟨_,a2,_⟩:=nR C k (j+1) lo ((lo+hi)/2) (g1.mono aa) gm m1 d1;obtain⟨_,b2,_⟩:=nR C k (j+1) ((lo+hi)/2) hi gm (g2.mono aa) m2 d2;have r1:=ih (j+1) lo ((lo+hi)/2) aa (g1.mono aa) gm m1 d1;have r2:=ih (j+1) ((lo+hi)/2) hi aa gm (g2.mono aa) m2 d2;have q1:SQ (β+d+J+1) lo:=(g1.mono aa).sq wL hD;have q2:SQ (β+d+J+1) hi:=(g2.mono aa).sq wL hD;have q3:SQ (β+d+J+1) ((lo+hi)/2):=(gm.mono aa).sq wL hD;have hM:=IH (q1.LLs (Nat.le_refl _)) (q2.LLs (Nat.le_refl _)) aa;have hB:=We I.hb I.ch.hn I.hl q1 q3 hu;rw [if_neg (Rat.not_lt.2 (Rat.le_of_lt m1))]at hB;refine Wg (n:=(vt (aH f) lo:Int)-vt (aH f) hi) (k:=(vt (aH f) lo:Int)-vt (aH f) ((lo+hi)/2)) aa aa aa aa hM hB r1 ?_;rw [show(vt (aH f) lo:Int)-vt (aH f) hi-((vt (aH f) lo:Int)-vt (aH f) ((lo+hi)/2))=(vt (aH f) ((lo+hi)/2):Int)-vt (aH f) hi by omega];exact r2
end Go.Proofs.YtiobceocpabjdaaGreat
namespace Go.Proofs.YtiobceocpabjdaaGreat
open Go Pm List
open ZX hiding N W
variable {u s n D β:Nat}{p q lo hi:Rat}{x:List Int}{f:ZX}{c:List ZX}{l:List (Rat × Rat)}{ln ld hn hd z σ:Int}
theorem SQ.tor(hp:SQ u p)(hu:u<=YY):aj 23 [RR p] (RT p):=by rw [bW];have h1:=hp.n2;have h2:=hp.d2;exact aap (by simp only [Z,YY]at *;omega) (by simp only [Z,YY]at *;omega)
def l1(x:List Int):Nat:=(x.map Int.natAbs).sum
theorem jg(a:Int)(x:List Int):l1 (a::x)=a.natAbs+l1 x:=by simp [l1]
theorem FW:l1 []=0:=rfl
theorem FX:∀x:List Int,l1 (aK x)<=l1 x
 | []=>Nat.le_refl _
 | a::x=>by
  have:=FX x;rw [aK]
  split
  ·rw [FW];omega
  ·rw [jg,jg];omega
theorem BM{α:Type}(f g:α->Int):∀l:List α,l1 (l.map fun k=>f k+g k)<=l1 (l.map f)+l1 (l.map g)
 | []=>Nat.le_refl _
 | x::l=>by have:=BM f g l;simp only [map_cons,jg];omega
theorem uA:∀(x:List Int) (n:Nat),l1 (x++replicate n 0)=l1 x
 | [],n=>by simp [l1]
 | a::x,n=>by rw [cons_append,jg,jg,uA x n]
theorem aaB(x y:List Int):l1 (iw x y)<=l1 x+l1 y:=by have h1:=BM (nth x) (nth y) (List.range (max x.length y.length));rw [oE aa,oE aa,uA,uA]at h1;exact Nat.le_trans (FX _) h1
theorem Wi(a:Int):∀y:List Int,l1 (y.map fun c=>c*a)=a.natAbs*l1 y
 | []=>by simp [l1]
 | c::y=>by rw [map_cons,jg,jg,Wi a y,Int.natAbs_mul,Nat.mul_add,Nat.mul_comm]
theorem IL:∀x y:List Int,l1 (gE x y)<=l1 x*l1 y
 | [],y=>by rw [gE,FW];omega
 | a::x,y=>by have h1:=IL x y;have h2:=aaB (y.map fun c=>c*a) (0::gE x y);rw [Wi,jg]at h2;rw [gE,jg,Nat.add_mul];simp only [Int.natAbs_zero]at h2;omega
def n1(a:ZX):Nat:=l1 a.l
theorem FY(a b:ZX):n1 (a*b)<=n1 a*n1 b:=Nat.le_trans (FX _) (IL _ _)
theorem anG(x:List Int):n1 (of x)<=l1 x:=FX x
theorem agZ(c:Int):n1 (K c)<=c.natAbs:=Nat.le_trans (anG _) (by simp [l1])
theorem Wj{a:ZX}{m:Nat}(h:n1 a<=m):∀k:Nat,n1 (a^k)<=m^k
 | 0=>agZ 1
 | k+1=>by rw [pow_succ',Nat.pow_succ];exact Nat.le_trans (FY _ _) (Nat.mul_le_mul (Wj h k) h)
theorem Wl:∀ {x:List Int} {c:Int},c∈x->c.natAbs<=l1 x
 | a::x,c,h=>by
  rw [jg]
  rcases mem_cons.1 h with rfl | h
  ·omega
  ·have:=Wl h;omega
theorem BZ.adq{a:ZX}(h:n1 a<2^s)(hn:ZX.N a<=n):BZ s n a:=⟨hn,fun c hc=>dp ar (Nat.lt_of_le_of_lt (Wl hc) h)⟩
theorem aaC(l:List Int)(i:Nat):n1 (of (gM l i))<=9^(ZX.N (of (gM l i))-1)∧2<=ZX.N (of (gM l i)):=by
 obtain⟨_,hl,_⟩:=zE l i;have h9:=Int.emod_nonneg (nth l i) (show (9:Int)≠0 by decide);have h9':=Int.emod_lt_of_pos (nth l i) (show (0:Int)<9 by decide);have h5:=Int.emod_nonneg (nth l (i+1)) (show (5:Int)≠0 by decide);have h5':=Int.emod_lt_of_pos (nth l (i+1)) (show (0:Int)<5 by decide);have h3:=Int.emod_nonneg (nth l (i+2)) (show (3:Int)≠0 by decide);have h3':=Int.emod_lt_of_pos (nth l (i+2)) (show (0:Int)<3 by decide);unfold n1 ZX.N;rw [hl];unfold gM
 split
 ·simp only [jg,FW,length_cons,length_nil];refine⟨?_,aa⟩;show _<=81;omega
 ·simp only [jg,FW,length_cons,length_nil];refine⟨?_,aa⟩;show _<=9;omega
theorem IM(l:List Int)(most:Nat):∀j,n1 (dG l most j)<=9^(ZX.N (dG l most j)-1)
 | 0=>Nat.le_trans (agZ 1) (Nat.one_le_pow _ _ ar)
 | j+1=>by
  have ih:=IM l most j;obtain⟨h0,_⟩:=mR l most j;obtain⟨b1,b2,b3⟩:=zE l (3*j);obtain⟨e1,e2⟩:=FE l (3*j);obtain⟨f1,f2⟩:=aaC l (3*j);obtain⟨p1,p2,p3⟩:=VS b3 b1 _ e1;show n1 (vY l most (3*j) (dG l most j))<=9^(ZX.N (vY l most (3*j) (dG l most j))-1);unfold vY
  split
  ·exact ih
  ·have h1:=Nat.mul_le_mul ih (Wj f1 (rQ l (3*j)));refine Nat.le_trans (FY _ _) (Nat.le_trans h1 ?_);rw [<-Nat.pow_mul,<-Nat.pow_add];refine Nat.pow_le_pow_right ar ?_;rw [ZX.i9 h0 p2,p3,Nat.mul_comm];have:=ZX.ax.1 h0;omega
theorem aaD(l:List Int)(most:Nat):n1 (made l most)<=3*9^most∧ZX.N (made l most)<=most+1:=by
 have hN:=(On l most).2.N;refine⟨?_,hN⟩;have h1:=IM l most (min 6 (l.length/3));have h2:=(mR l most (min 6 (l.length/3))).2.N;have h3:9^(ZX.N (dG l most (min 6 (l.length/3)))-1)<=9^most:=Nat.pow_le_pow_right ar aa;unfold made
 split
 ·have h4:=FY (K (-3)) (dG l most (min 6 (l.length/3)));have h5:=agZ (-3);exact Nat.le_trans h4 (Nat.mul_le_mul h5 (Nat.le_trans h1 h3))
 ·omega
theorem BN{S τ t:Rat}(hS:0<=S)(hτ:0<τ)(ht:jM τ t):∀ {x:List Int},Cn x->0<x.length->(∀c∈x.dropLast,Ab (c:Rat) S)->S+(((lead x).natAbs:Int):Rat)<=(((lead x).natAbs:Int):Rat)*τ->jM (((lead x).natAbs:Int):Rat) (qv t x)
 | [a],hc,_,_,_=>by
  have e1:qv t [a]=(a:Rat):=by simp only [qv];grind
  have e2:lead [a]=a:=rfl;rw [e1,e2]
  by_cases h:0<=a
  ·right;exact Rat.intCast_le_intCast.2 aa
  ·left;rw [<-Rat.intCast_neg];exact Rat.intCast_le_intCast.2 aa
 | a::b::l,hc,_,hb,hL=>by
  have hl:=cZ (zw hc) av;rw [xu]at hL |-;have ih:=BN hS hτ ht (zw hc) av (fun c hc=>hb c (by rw [dropLast_cons_of_ne_nil av];exact mem_cons_of_mem _ hc)) hL;obtain⟨h4,h5⟩:=hb a (by rw [dropLast_cons_of_ne_nil av];simp);have e1:qv t (a::b::l)=a+t*qv t (b::l):=rfl;have hp:(0:Rat)<(((lead (b::l)).natAbs:Int):Rat):=Rat.intCast_pos.2 aa;have hm:=jM.mul hτ hp ht ih;rw [e1];generalize (((lead (b::l)).natAbs:Int):Rat)=L at *
  rcases hm with h | h
  ·left;grind
  ·right;grind
theorem l9(cx:Cn x)(hx:x ≠ []){t:Rat}(ht:jM (gp x) t):jM 1 (qv t x)∧1<=gp x:=by
 have n7:=length_pos_iff.2 hx;have hl:=cZ cx n7;have hL:(1:Rat)<=(((lead x).natAbs:Int):Rat):=ep aa;have hm:(0:Rat)<=((kG x (x.length-1):Int):Rat):=Rat.intCast_nonneg.2 (V7 _ _);have e:=xy cx hx;have h2:=Rat.div_mul_cancel (a:=((kG x (x.length-1):Int):Rat)) (b:=(((lead x).natAbs:Int):Rat)) aG;have hw:(0:Rat)<=((kG x (x.length-1):Int):Rat)/(((lead x).natAbs:Int):Rat):=by refine Rat.not_lt.1 fun h=>?_;have:=Rat.mul_le_mul_of_nonneg_left hL (show 0 <= -(((kG x (x.length-1):Int):Rat)/(((lead x).natAbs:Int):Rat))by grind);grind
 have h1:1<=gp x:=by rw [e];grind
 refine⟨(BN hm (show 0<gp x by grind) ht cx n7 (fun c hc=>?_) ?_).mono hL,h1⟩
 ·obtain⟨k,hk,rfl⟩:=mem_iff_getElem.1 hc;rw [length_dropLast]at hk;have h3:=V8 x (x.length-1) k hk;rw [bJ aa]at h3;rw [getElem_dropLast]
  constructor
  ·rw [<-Rat.intCast_neg];exact Rat.intCast_le_intCast.2 aa
  ·exact Rat.intCast_le_intCast.2 aa
 ·rw [e];generalize ((kG x (x.length-1):Int):Rat)/(((lead x).natAbs:Int):Rat)=w at *;grind
abbrev rc(q:Rat):List PV:=[aw ay (aI DD q.num.natAbs), .bool (decide (q.num<0)),aw ay (aI DD (q.den:Int).natAbs), .bool (decide ((q.den:Int)<0))]
def qa(f:ZX)(c:List ZX)(p:Rat × Rat):List PV:=PI f.l::aw zq c::(rc p.1++rc p.2)
@[simp] theorem atq{p:Rat × Rat}:qa f c p=PI f.l::aw zq c::(rc p.1++rc p.2):=rfl
@[simp] theorem D2:bC 10 (emap (qa f c) l)=True:=cE fun _=>rfl
@[simp] theorem ag0{v e:Nat}:da (some ⟨v,e,n,emap (qa f c) l⟩)=True:=ck fun _=>rfl
theorem OD:∀x∈emap (qa f c) l,∀p∈x,aF p=true:=fun x hx p hp=>by simp only [emap,mem_map]at hx;obtain⟨r,_,rfl⟩:=hx;simp at hp;rcases hp with rfl | rfl | rfl | rfl | rfl | rfl | rfl | rfl | rfl | rfl<;>rfl
abbrev QA(f:ZX)(c:List ZX)(p:Rat × Rat):PV:=.ag (qa f c p)
def ex(f:ZX)(p:Rat × Rat):Rat × Rat:=if e p.2 f=0 then(p.2,p.2)else p
theorem SQ.yy(h:SQ u q)(hu:u<=1000000000):ZR YY q:=⟨by have:=h.n2;simp only [YY];omega,by have:=h.d2;simp only [YY];omega⟩
theorem j8:dc (p.num*q.den) (q.num*p.den)=0↔p=q:=by
 have h1:=jF p q;have h2:=jF q p;rw [kZ]at h1 h2
 refine⟨fun h=>?_,fun h=>?_⟩
 ·have h:=Pm.sE.1 h
  by_cases h3:p<q
  ·have:=h1.2 h3;omega
  ·rcases Rat.le_iff_lt_or_eq.1 (Rat.not_lt.1 h3)with h4 | h4
   ·have:=h2.2 h4;omega
   ·exact h4.symm
 ·rw [h];exact ve _
abbrev c4(n d:Int):List PV:=[aw ay (aI DD n.natAbs), .bool (decide (n<0)),aw ay (aI DD d.natAbs), .bool (decide (d<0))]
theorem LP(hz:(z != 0)=false)(c1:aj 14 [R2 ln ld,R2 hn hd] (ae z))(s1:aj 77 [PI x,R2 hn hd] (ae σ)) :
  aj 80 [.ag (PI x::aw zq c::(c4 ln ld++c4 hn hd))] (.ag (PI x::aw zq c::(c4 ln ld++c4 hn hd))):=by
 simp only [c4];apply bL [(0, .ag (PI x::aw zq c :: [aw ay (aI DD ln.natAbs), .bool (decide (ln<0)),aw ay (aI DD ld.natAbs), .bool (decide (ld<0)),aw ay (aI DD hn.natAbs), .bool (decide (hn<0)),aw ay (aI DD hd.natAbs), .bool (decide (hd<0))]))] Tryz.func80;apply fB [1,2];apply lE c1
 apply s8 hz [1,2,16]<;>intro h
 ·simp at h
 ·apply W.skip;exact dS [2]
theorem Wm(hz:(z != 0)=true)(hs:(σ==0)=false)(c1:aj 14 [R2 ln ld,R2 hn hd] (ae z))(s1:aj 77 [PI x,R2 hn hd] (ae σ)) :
  aj 80 [.ag (PI x::aw zq c::(c4 ln ld++c4 hn hd))] (.ag (PI x::aw zq c::(c4 ln ld++c4 hn hd))):=by
 simp only [c4];apply bL [(0, .ag (PI x::aw zq c :: [aw ay (aI DD ln.natAbs), .bool (decide (ln<0)),aw ay (aI DD ld.natAbs), .bool (decide (ld<0)),aw ay (aI DD hn.natAbs), .bool (decide (hn<0)),aw ay (aI DD hd.natAbs), .bool (decide (hd<0))]))] Tryz.func80;apply fB [1,2];apply lE c1;apply iI hz s1
 apply s8 hs [1,2,16]<;>intro h
 ·simp at h
 ·apply W.skip;exact dS [2]
theorem Rr(hz:(z != 0)=true)(hs:(σ==0)=true)(c1:aj 14 [R2 ln ld,R2 hn hd] (ae z))(s1:aj 77 [PI x,R2 hn hd] (ae σ)) :
  aj 80 [.ag (PI x::aw zq c::(c4 ln ld++c4 hn hd))] (.ag (PI x::aw zq c::(c4 hn hd++c4 hn hd))):=by
 simp only [c4];apply bL [(0, .ag (PI x::aw zq c :: [aw ay (aI DD ln.natAbs), .bool (decide (ln<0)),aw ay (aI DD ld.natAbs), .bool (decide (ld<0)),aw ay (aI DD hn.natAbs), .bool (decide (hn<0)),aw ay (aI DD hd.natAbs), .bool (decide (hd<0))]))] Tryz.func80;apply fB [1,2];apply lE c1;apply iI hz s1
 apply s8 hs [1,2,16]<;>intro h
 ·refine bB fun K hK=>?_;refine W.lw [1,2] hK ?_;clear hK K;simp;exact dS [2]
 ·simp at h
theorem mU{p:Rat × Rat}:QA f c p = .ag (PI f.l::aw zq c::(c4 p.1.num p.1.den++c4 p.2.num p.2.den)):=rfl
theorem D3{p:Rat × Rat}(hb:BZ 4500000000 n f)(hn:n<=20)(q1:SQ u p.1)(q2:SQ u p.2)(hu:u<=1000000000):aj 80 [QA f c p] (QA f c (ex f p)):=by
 have c1:=ll p.1 p.2 (q1.yy hu) (q2.yy hu);have hmul:n*(u+1)<=20*(u+1):=Nat.mul_le_mul_right _ hn;have s1:=sO hb q2.n2 q2.d2 q2.hu aa (by show _<137438953472;omega);rw [vZ]at s1;rw [bW,bW]at c1
 by_cases h:p.1=p.2
 ·have he:ex f p=p:=by
   unfold ex;split
   ·exact Prod.ext h.symm rfl
   ·rfl
  rw [he,mU];exact LP (by rw [j8.2 h];rfl) c1 s1
 ·have hz:(dc (p.1.num*p.2.den) (p.2.num*p.1.den) != 0)=true:=bne_iff_ne.2 fun h0=>h (j8.1 h0)
  by_cases h2:e p.2 f=0
  ·rw [show ex f p=(p.2,p.2)from if_pos h2,mU,mU];exact Rr hz (by rw [h2,jd];rfl) c1 s1
  ·rw [show ex f p=p from if_neg h2,mU];exact Wm hz (by simp only [beq_eq_false_iff_ne];exact fun h0=>h2 (eo.1 h0)) c1 s1
theorem LQ(B:aj 76 [aw zq c,RR lo,RR hi] (ae 0)):gS env.P 184 [PI f.l,aw zq c,RR lo,RR hi] 49 10 []:=by
 rw [bW,bW]at B |-;generalize lo.num=ln,(lo.den:Int)=ld,hi.num=hn,(hi.den:Int)=hd at *;refine iy (E:=env) (fun id=>if id=7 then 2 else 0) (t:=8) [(0,PI f.l),(1,aw zq c),(2,R2 ln ld),(3,R2 hn hd)] Tryz.func184 rfl bX bX (show 4<=40 by decide) rfl av ?_;apply fk [0,1,6,7] B [0,1,6,7,9]
 apply cS [0,1,6,7,9,16]<;>intro h
 ·apply aR [8];refine W.nil 8 8 49 10 av ar fun K hK=>?_;simp;refine hK _ ?_;apply W.ret;exact⟨8,_,by simp;exact rfl,av,fun x hx=>by cases hx⟩
 ·simp at h
theorem Rt(B:aj 76 [aw zq c,RR lo,RR hi] (ae 1))(X:aj 80 [QA f c (lo,hi)] (QA f c (ex f (lo,hi)))):gS env.P 184 [PI f.l,aw zq c,RR lo,RR hi] 49 10 (emap (qa f c) [ex f (lo,hi)]):=by
 rw [show emap (qa f c) [ex f (lo,hi)] = [qa f c (ex f (lo,hi))]from rfl];rw [bW,bW]at *;generalize hy:ex f (lo,hi)=y at *;rw [mU,mU]at X;rw [show qa f c y=PI f.l::aw zq c::(c4 y.1.num y.1.den++c4 y.2.num y.2.den)from rfl];simp only [c4,cons_append,nil_append]at X |-;clear hy;generalize y.1.num=an,(y.1.den:Int)=ad,y.2.num=bn,(y.2.den:Int)=bd,lo.num=ln,(lo.den:Int)=ld,hi.num=hn,(hi.den:Int)=hd at *;refine iy (E:=env) (fun id=>if id=7 then 2 else 0) (t:=8) [(0,PI f.l),(1,aw zq c),(2,R2 ln ld),(3,R2 hn hd)] Tryz.func184 rfl bX bX (show 4<=40 by decide) rfl av ?_;apply fk [0,1,6,7] B [0,1,6,7,9]
 apply cS [0,1,6,7,9,16]<;>intro h
 ·simp at h
 apply (jm)
 apply fi [0,1,6,7,18]<;>intro h
 ·refine W.VG 6 rfl rfl fun K hK=>?_;apply my X;refine W.lw [8] hK ?_;clear hK K;simp;apply W.ret;exact⟨25,_,by simp;exact rfl,av,fun x hx p hp=>by simp at hx;subst hx;simp at hp;rcases hp with rfl | rfl | rfl | rfl | rfl | rfl | rfl | rfl | rfl | rfl<;>rfl⟩
 ·simp at h
theorem LR{n:Int}{la lb:List (Rat × Rat)}(hn:2<=n∧n<=21)(KJ:la.length<=21)(hlb:lb.length<=21)
  (M:aj 204 [RR lo,RR hi] (RR ((lo+hi)/2))) (B:aj 76 [aw zq c,RR lo,RR hi] (ae n))
  (h1:gS env.P 184 [PI f.l,aw zq c,RR lo,RR ((lo+hi)/2)] 49 10 (emap (qa f c) la)) (h2:gS env.P 184 [PI f.l,aw zq c,RR ((lo+hi)/2),RR hi] 49 10 (emap (qa f c) lb)) :
  gS env.P 184 [PI f.l,aw zq c,RR lo,RR hi] 49 10 (emap (qa f c) (la++lb)):=by
 rw [<-xW];have el1:(emap (qa f c) la).length<=21:=by simpa [emap]using KJ
 have el2:(emap (qa f c) lb).length<=21:=by simpa [emap]using hlb
 have p1:=OD (f:=f) (c:=c) (l:=la);have p2:=OD (f:=f) (c:=c) (l:=lb);have a1:bC 10 (emap (qa f c) la)=True:=D2;have a2:bC 10 (emap (qa f c) lb)=True:=D2;simp only [bW]at *;generalize ((lo+hi)/2).num=mn,(((lo+hi)/2).den:Int)=md,lo.num=ln,(lo.den:Int)=ld,hi.num=wX,(hi.den:Int)=hd,emap (qa f c) la=ea,emap (qa f c) lb=eb at *;refine iy (E:=env) (fun id=>if id=7 then 2 else 0) (t:=8) [(0,PI f.l),(1,aw zq c),(2,R2 ln ld),(3,R2 wX hd)] Tryz.func184 rfl bX bX (show 4<=40 by decide) rfl av ?_;apply fk [0,1,6,7] B [0,1,6,7,9]
 apply cS [0,1,6,7,9,16]<;>intro h
 ·simp at h;omega
 apply (jm)
 apply fi [0,1,6,7,18]<;>intro h
 ·simp at h;omega
 apply rf M [0,1,6,7,10];apply W.sd;rw [if_pos rfl,fc];apply (cp);refine xU h1 rfl trivial ?_;simp (disch:=omega) [gw,kR];refine xU h2 rfl trivial ?_;simp (disch:=omega) [gw,a1,a2,kR];apply c9 [8];apply W.ret
 exact⟨33,_,by simp;exact rfl,av,fun x hx=>by
  rcases mem_append.1 hx with hx | hx
  ·exact p1 x hx
  ·exact p2 x hx⟩
theorem Gr.add{j:Nat}(hp:Gr D (2^β) j p)(hq:Gr D (2^β) j q):Gr D (2^(β+1)) j (p+q):=by
 obtain⟨⟨y,hy⟩,b1,b2⟩:=hp;obtain⟨⟨z,hz⟩,b3,b4⟩:=hq
 refine⟨⟨y+z,?_⟩,?_⟩
 ·rw [Rat.intCast_add,<-hy,<-hz];grind
 ·rw [Rat.pow_succ];exact⟨aG,aG⟩
theorem Ru(I:kS s n f){d J:Nat}{δ:Rat}(wL:1<=D)(hD:D<=2^d)(C:Cut (vt (aH f)) (2^β) δ)(hu:β+1+d+J+1<=1000000000):∀(k j:Nat) (lo hi:Rat),j+k<=J->Gr D (2^β) j lo->Gr D (2^β) j hi->lo<hi->hi-lo<=δ*2^k ->
  gS env.P 184 [PI f.l,aw zq (aH f),RR lo,RR hi] 49 10 (emap (qa f (aH f)) ((Cd (vt (aH f)) k lo hi).map (ex f))):=by
 have hbt:∀(j:Nat) (lo hi:Rat),j<=J->Gr D (2^β) j lo->Gr D (2^β) j hi->lo<hi->aj 76 [aw zq (aH f),RR lo,RR hi] (ae ((vt (aH f) lo:Int)-vt (aH f) hi)):=fun j lo hi hj g1 g2 bZ=>by have:=LO I.hb I.ch.hn I.hl ((g1.mono hj).sq wL hD) ((g2.mono hj).sq wL hD) aa;rwa [if_neg (Rat.not_lt.2 (Rat.le_of_lt bZ))]at this
 have leaf:∀(j:Nat) (lo hi:Rat),j<=J->Gr D (2^β) j lo->Gr D (2^β) j hi->lo<hi->vt (aH f) lo=vt (aH f) hi+1->gS env.P 184 [PI f.l,aw zq (aH f),RR lo,RR hi] 49 10 (emap (qa f (aH f)) ([(lo,hi)].map (ex f))):=fun j lo hi hj g1 g2 bZ he=>by have h1:=hbt j lo hi hj g1 g2 bZ;rw [show(vt (aH f) lo:Int)-vt (aH f) hi=1 by omega]at h1;exact Rt h1 (D3 (I.ch.bz.mono (by have:=I.hs;omega) (Nat.le_refl _)) I.ch.hn ((g1.mono hj).sq wL hD) ((g2.mono hj).sq wL hD) aa)
 have IK:∀(j:Nat) (lo hi:Rat),j<=J->Gr D (2^β) j lo->Gr D (2^β) j hi->lo<hi->vt (aH f) lo=vt (aH f) hi->gS env.P 184 [PI f.l,aw zq (aH f),RR lo,RR hi] 49 10 (emap (qa f (aH f)) ([].map (ex f))):=fun j lo hi hj g1 g2 bZ he=>by have h1:=hbt j lo hi hj g1 g2 bZ;rw [show(vt (aH f) lo:Int)-vt (aH f) hi=0 by omega]at h1;exact LQ h1
 intro k
 induction k with
 | zero =>
  intro j lo hi hj g1 g2 bZ hd;rw [Cd]
  by_cases he:vt (aH f) lo=vt (aH f) hi
  ·rw [if_pos he];exact IK j lo hi aa g1 g2 bZ he
  ·rw [if_neg he];exact leaf j lo hi aa g1 g2 bZ (C.leaf g1.b g2.b bZ (by rw [Rat.pow_zero,Rat.mul_one]at hd;exact hd) he)
 | succ k ih =>
  intro j lo hi hj g1 g2 bZ hd;rw [Cd]
  by_cases he:vt (aH f) lo=vt (aH f) hi
  ·rw [if_pos he];exact IK j lo hi aa g1 g2 bZ he
  ·rw [if_neg he]
   by_cases Bw:vt (aH f) lo=vt (aH f) hi+1
   ·rw [if_pos Bw];exact leaf j lo hi aa g1 g2 bZ Bw
   ·rw [if_neg Bw];obtain⟨m1,m2⟩:=oh bZ;obtain⟨d1,d2⟩:=rT hd;have gm:=g1.A3 g2;have n1:=C.bI lo ((lo+hi)/2) (Rat.le_of_lt m1);have n2:=C.bI ((lo+hi)/2) hi (Rat.le_of_lt m2);have hv1:=Nat.le_trans (V5 (aH f) lo) I.hl;obtain⟨_,a2,_⟩:=nR C k (j+1) lo ((lo+hi)/2) (g1.mono aa) gm m1 d1;obtain⟨_,b2,_⟩:=nR C k (j+1) ((lo+hi)/2) hi gm (g2.mono aa) m2 d2;have r1:=ih (j+1) lo ((lo+hi)/2) aa (g1.mono aa) gm m1 d1;have r2:=ih (j+1) ((lo+hi)/2) hi aa gm (g2.mono aa) m2 d2;have q1:SQ (β+1+d+J+1) lo:=((g1.mono (show j<=J by omega)).sq wL hD).mono aa;have q2:SQ (β+1+d+J+1) hi:=((g2.mono (show j<=J by omega)).sq wL hD).mono aa;have q3:SQ (β+1+d+J+1) (lo+hi):=((g1.add g2).mono (show j<=J by omega)).sq wL hD;have hM:=II (q1.yy hu) (q2.yy hu) (q3.yy hu);have hB:=hbt j lo hi aa g1 g2 bZ;rw [map_append];exact LR (n:=(vt (aH f) lo:Int)-vt (aH f) hi) aa (by rw [length_map];omega) (by rw [length_map];omega) hM hB r1 r2
end Go.Proofs.YtiobceocpabjdaaGreat
