import Derived.Test.YtiobceocpabjdaaGreatCae
import Derived.Test.YtiobceocpabjdaaGreatCak
set_option linter.unusedSimpArgs false
set_option linter.unusedVariables false
namespace Go.Proofs.YtiobceocpabjdaaGreat
open Go Pm
def BK(l:List Rat):Int:=l.foldl (fun d q=>(d*q.den).tdiv (Int.gcd d q.den)) 1
def JW(d:Int)(l:List Rat):Int:=l.foldl (fun (g:Int) q=>(Int.gcd g ((q.num*d).tdiv q.den):Int)) 0
theorem S8{l:List Rat}{i:Nat}(h:i<l.length):BK (l.take (i+1))=(BK (l.take i)*(nth l i).den).tdiv (Int.gcd (BK (l.take i)) (nth l i).den):=by
 unfold BK;rw [aU h,List.foldl_append];rfl
theorem S9{l:List Rat}{d:Int}{i:Nat}(h:i<l.length):JW d (l.take (i+1))=(Int.gcd (JW d (l.take i)) (((nth l i).num*d).tdiv (nth l i).den):Int):=by
 unfold JW;rw [aU h,List.foldl_append];rfl
theorem TA(q:Rat):RI (q.den:Int) = .ag [aX aO (a5 DD q.den), .bool false]:=by
 simp [show ¬((q.den:Int)<0)by omega]
def HQ(l:List Rat):Rat:=if (nth l (l.length-1)).num<0 then -(dA (JW (BK l) l) (BK l))else dA (JW (BK l) l) (BK l)
def qpr(l:List Rat):List Rat:=iM l (1/HQ l)
theorem nR(l:List Rat){k:Nat}(hk:k≤YY)(hk1:1≤k)(hl:∀q∈l,ZR k q)(FT:l.length<1099511627776)(h0:l ≠ [])
  (hd:∀i,sz 2 (BK (l.take i))≤k) (VE:∀i,0<BK (l.take i)) (hg:∀i,sz 2 (JW (BK l) (l.take i))≤k)
  (hc:ZR YY (HQ l)) (yG:HQ l≠0) (wP:ZR YY (1/HQ l)) :
  aZ env.P 155 [PP l] (.eQ [RR (HQ l),PP (qpr l)]):=by
 have hkY:k≤137438953472:=hk
 have IF:0<l.length:=List.length_pos_iff.2 h0
 refine cL [(0,PP l)] Tryz.func155 ?_
 refine aB [0,2] ?_
 refine aQ [0,2,11] ?_
 refine bO ?_ ?_<;>intro h
 ·exfalso;simp at h;exact h0 h
 refine W.skip ?_
 refine j1 ?_
 refine aD (lT 1 (by decide) (by decide)) ?_
 simp (disch:=omega) [gw]
 refine bF [0,2,4] ?_
 refine aQ [0,2,4,15,16] ?_
 refine W.block ?_
 refine W.a9 (fun n σ=>∃(i:Nat) (d:Int) (rows:Pm.Rows) (clk:Nat),σ=⟨fa [(0,PP l),(2, .ptr 2 0 0 0),(4, .ptr 4 1 0 0),(15, .int .i64 l.length),(16, .int .i64 i)],rows,clk⟩ ∧
  rows 2=some ⟨0,31,4,[[.nil, .bool false, .nil, .bool false]]⟩∧rows 4=some ⟨1,29,2,[[aX aO (a5 DD d.natAbs), .bool (decide (d<0))]]⟩∧n=l.length-i∧i≤l.length∧d=BK (l.take i)) l.length ?_ ?_
 ·exact⟨_, .refl,0,1,_,_,rfl,by simp,by simp,by omega,by omega,by simp [BK]⟩
 rintro n _ ⟨i,d,rows,clk,rfl,dB,fT,hn,hi,SJ⟩
 refine cH [0,2,4,15,16,17] ?_
 refine bO ?_ ?_<;>intro h
 ·have hi:i<l.length:=by simp at h;omega
  have hq:=hl _ (cP hi)
  have hdi:=hd i
  have hdp:=VE i
  have hs:=S8 hi
  rw [←SJ]at hs hdi hdp
  have hsn:=hd (i+1)
  have m1:=fI d (nth l i).den (by simp only [Z];omega) (by have:=hq.d;simp only [Z];omega)
  have m2:=vK d (nth l i).den (by simp only [Y];omega) (by have:=hq.d;simp only [Y];omega)
  have zm:=cZ (b:=2) (by decide) hdi hq.d
  have hgp:0<Int.gcd d (nth l i).den:=Int.gcd_pos_of_ne_zero_left _ (by omega)
  have zg:Y (Int.gcd d (nth l i).den:Int):=vJ (y:=d) (by simp only [Y];omega) (by
   have:=Int.le_of_dvd hdp (Int.gcd_dvd_left d ((nth l i).den:Int));omega)
  have m3:=qI (d*(nth l i).den) (Int.gcd d (nth l i).den) (by omega) (by simp only [Y];omega) zg
  rw [←hs]at m3
  rw [TA]at m1 m2
  generalize (Int.gcd d (nth l i).den:Int)=gg at *
  generalize d*((nth l i).den:Int)=dd at *
  generalize K4:BK (l.take (i+1))=d2 at *
  generalize M8:nth l i=q at *
  refine iS ?_
  refine W.sr ?_
  simp (disch:=omega) [gw,M8]
  refine bF [0,2,4,5,15,16] ?_
  refine W.CS (fun K hK=>?_)
  simp (disch:=omega) [gw,fT,M8]
  refine aD m1 ?_
  simp (disch:=omega) [gw,fT,M8]
  refine aD m2 ?_
  simp (disch:=omega) [gw,fT,M8]
  refine aD m3 ?_
  simp (disch:=omega) [gw,fT,M8]
  refine bU (by refine⟨?_,?_⟩<;>kernel_rfl) ?_
  simp (disch:=omega) [gw]
  refine W.lw [0,2,4,15,16] hK ?_;clear hK K;simp
  refine W.cA (fun K hK=>?_);simp (disch:=omega) [gw]
  refine hK _ ⟨l.length-(i+1),_,aC _ [0,2,4,15,16],by omega,i+1,d2,_,_,rfl,by simp [dB],by simp,by omega,by omega,K4.symm⟩
 have hi:i=l.length:=by simp at h;omega
 subst hi
 rw [List.take_length]at SJ
 have hdl:=hd l.length
 have hdp:=VE l.length
 rw [List.take_length,←SJ]at hdl hdp
 rw [←SJ]at hg
 have hqc:HQ l=if (nth l (l.length-1)).num<0 then -(dA (JW d l) d)else dA (JW d l) d:=by rw [SJ];rfl
 refine eH ?_
 refine aB [0,2,4,6] ?_
 refine W.row (id:=6) (els:=[[.nil, .bool false]]) [[aX aO (a5 DD 0), .bool false]] (by simp;first | exact⟨rfl,rfl,rfl⟩ | exact⟨rfl,rfl,rfl,rfl⟩) ⟨⟨.inr ⟨rfl,rfl⟩, .inl rfl,trivial⟩,trivial⟩ ?_
 refine aQ [0,2,4,6,36,37] ?_
 refine W.block ?_
 clear SJ
 refine W.a9 (fun n σ=>∃(i v6:Nat) (g:Int) (rows:Pm.Rows) (clk:Nat),σ=⟨fa [(0,PP l),(2, .ptr 2 0 0 0),(4, .ptr 4 1 0 0),(6, .ptr 6 v6 0 0),(36, .int .i64 l.length),(37, .int .i64 i)],rows,clk⟩ ∧
  rows 2=some ⟨0,31,4,[[.nil, .bool false, .nil, .bool false]]⟩∧rows 4=some ⟨1,29,2,[[aX aO (a5 DD d.natAbs), .bool (decide (d<0))]]⟩ ∧
  rows 6=some ⟨v6,29,2,[[aX aO (a5 DD g.natAbs), .bool (decide (g<0))]]⟩∧n=l.length-i∧i≤l.length∧g=JW d (l.take i)) l.length ?_ ?_
 ·exact⟨_, .refl,0,_,0,_,_,rfl,by simp [dB],by simp [fT],by simp,by omega,by omega,by simp [JW]⟩
 clear dB fT rows clk
 rintro n _ ⟨i,v6,g,rows,clk,rfl,dB,fT,mI,hn,hi,hgv⟩
 refine cH [0,2,4,6,36,37,38] ?_
 refine bO ?_ ?_<;>intro h
 ·have hi:i<l.length:=by simp at h;omega
  have hq:=hl _ (cP hi)
  have hgi:=hg i
  have hs:=S9 (d:=d) hi
  rw [←hgv]at hs hgi
  have m1:=fI (nth l i).num d (by have:=hq.n;simp only [Z];omega) (by simp only [Z];omega)
  have zm:=cZ (b:=2) (by decide) hq.n hdl
  have m2:=qI ((nth l i).num*d) (nth l i).den (by have:=(nth l i).den_nz;omega) (by simp only [Y];omega) (by have:=hq.d;simp only [Y];omega)
  have zq:Y (((nth l i).num*d).tdiv (nth l i).den):=vJ (y:=(nth l i).num*d) (by simp only [Y];omega) (by rw [Int.natAbs_tdiv];exact Nat.div_le_self _ _)
  have m3:=vK g (((nth l i).num*d).tdiv (nth l i).den) (by simp only [Y];omega) zq
  rw [←hs]at m3
  rw [TA]at m2
  generalize ((nth l i).num*d).tdiv (nth l i).den=nq at *
  generalize (nth l i).num*d=nd at *
  generalize s0:JW d (l.take (i+1))=g2 at *
  generalize M8:nth l i=q at *
  refine iS ?_
  refine W.sr ?_
  simp (disch:=omega) [gw,M8]
  refine bF [0,2,4,6,7,36,37] ?_
  refine W.CS (fun K hK=>?_)
  simp (disch:=omega) [gw,fT,mI,M8]
  refine aD m1 ?_
  simp (disch:=omega) [gw,fT,mI,M8]
  refine aD m2 ?_
  simp (disch:=omega) [gw,fT,mI,M8]
  refine aD m3 ?_
  simp (disch:=omega) [gw,fT,mI,M8]
  refine bU (by kernel_rfl) ?_
  simp (disch:=omega) [gw]
  refine W.lw [0,2,4,6,36,37] hK ?_;clear hK K;simp
  refine W.cA (fun K hK=>?_);simp (disch:=omega) [gw]
  refine hK _ ⟨l.length-(i+1),_,aC _ [0,2,4,6,36,37],by omega,i+1,v6,g2,_,_,rfl,by simp [dB],by simp [fT],by simp,by omega,by omega,s0.symm⟩
 have hi:i=l.length:=by simp at h;omega
 subst hi
 rw [List.take_length]at hgv
 have hgl:=hg l.length
 rw [List.take_length]at hgl
 rw [←hgv]at hgl hqc
 have hMk:=jD g d (by simp only [Y];omega) (by simp only [Y];omega)
 have hNg:=DI (dA g d)
 have hQ:=DL 1 (HQ l) ⟨by show sz 2 1≤YY;exact Nat.le_trans (cX (k:=1) (by decide) (by decide)) (by decide),by show sz 2 1≤YY;exact Nat.le_trans (cX (k:=1) (by decide) (by decide)) (by decide)⟩ hc yG
 have hOf:=qJ 1 1 (by decide) (by decide)
 rw [i5,show(((1:Int)):Rat)=1 by simp]at hOf
 have hSc:=pM l (1/HQ l) ⟨fun q hq=>⟨Nat.le_trans (hl q hq).n hk,Nat.le_trans (hl q hq).d hk⟩,FT⟩ wP
 rw [show iM l (1/HQ l)=qpr l from rfl]at hSc
 have e1:((l.length:Int)-1).toNat=l.length-1:=by omega
 generalize qpr l=pr at *
 generalize g9:(1:Rat)=one at *
 generalize one/HQ l=ic at *
 generalize HQ l=cc at *
 generalize hqm:dA g d=c0 at *
 generalize M8:nth l (l.length-1)=q at *
 refine eH ?_
 refine W.sr ?_
 simp (disch:=omega) [gw,fT,mI]
 refine c7 [0,2,8] hMk ?_
 refine W.gK (fun σ=>∃(v8:Nat) (rows:Pm.Rows) (clk:Nat),σ=⟨fa [(0,PP l),(2, .ptr 2 0 0 0),(8, .ptr 8 v8 0 0)],rows,clk⟩∧rows 2=some ⟨0,31,4,[[.nil, .bool false, .nil, .bool false]]⟩∧rows 8=some ⟨v8,31,4,[re cc]⟩) ?_ ?_
 ·refine W.sr ?_
  simp (disch:=omega) [gw,e1,M8]
  refine bF [0,2,8,66] ?_
  refine W.Q4 (q.num<0) rfl (fun h=>?_) (fun h=>?_)
  ·rw [if_pos h]at hqc
   rw [←hqc]at hNg
   refine W.cA (fun K hK=>?_)
   simp (disch:=omega) [gw]
   refine cM hNg ?_
   exact hK _ ⟨_,aC _ [0,2,8],_,_,_,rfl,by simp [dB],by simp⟩
  ·rw [if_neg h]at hqc
   refine W.skip ?_
   exact⟨_,aC _ [0,2,8],_,_,_,rfl,by simp [dB],by simp [hqc]⟩
 clear dB fT mI rows clk
 rintro _ ⟨v8,rows,clk,rfl,dB,lA⟩
 refine W.sd ?_
 simp (disch:=omega) [gw,lA]
 refine aD hOf ?_
 simp (disch:=omega) [gw,lA]
 refine aD hQ ?_
 simp (disch:=omega) [gw,lA]
 refine aD hSc ?_
 simp (disch:=omega) [gw,dB,lA]
 refine bF [2,3] ?_
 exact cV
theorem JX(x:List Int)(hx:∀c∈x,Z c)(hl:x.length<1099511627776):aZ env.P 100 [PI x] (Po x):=by
 refine cL [(0,PI x)] Tryz.func100 ?_
 refine aB [0] ?_
 refine aB [0,3] ?_
 refine W.nil 3 3 38 2 (by simp) (by decide) (fun K hK=>?_)
 refine W.lw [0,3] hK ?_;clear hK K;simp
 refine aQ [0,3,6,7] ?_
 refine W.block ?_
 refine W.a9 (fun k σ=>∃(i ver:Nat) (rows:Pm.Rows) (clk:Nat),σ=⟨fa [(0,PI x),(3, .own 3 ver 0 i),(6, .int .i64 x.length),(7, .int .i64 i)],rows,clk⟩∧rows 3=some ⟨ver,38,2,emap ie (x.take i)⟩∧k=x.length-i∧i≤x.length) x.length ?_ ?_
 ·exact⟨_, .refl,0,_,_,_,rfl,by simp [emap],by omega,by omega⟩
 rintro k _ ⟨i,ver,rows,clk,rfl,hr,hk,hi⟩
 refine cH [0,3,6,7,8] ?_
 refine W.cond ⟨_,rfl,fun h0=>?_,fun h0=>?_⟩
 ·have h0:i<x.length:=by simp at h0;omega
  have eX:(x.take i).length=i:=by simp;omega
  have hT:=AG (nth x i) (hx _ (cP h0))
  refine iS ?_
  refine aB [0,3,4,6,7] ?_
  refine W.cA (fun K hK=>?_)
  simp (disch:=omega) [gw]
  refine aD hT ?_
  simp (disch:=omega) [gw,hr,eX]
  refine W.lw [0,3,6,7] hK ?_;clear hK K;simp
  refine W.cA (fun K hK=>?_);simp (disch:=omega) [gw]
  refine hK _ ⟨x.length-(i+1),_,aC _ [0,3,6,7],by omega,i+1,_,_,_,rfl,?_,by omega,by omega⟩
  rw [aU h0]
  simp
 ·have oP:i=x.length:=by simp at h0;omega
  subst oP
  rw [List.take_length]at hr
  refine eH ?_
  refine W.sr ?_
  simp (disch:=omega) [gw,hr]
  refine bF [2] ?_
  refine W.ret ?_
  simp [go,hr]
theorem AV(x:List Int):BK (qs x)=1:=by
 have key:∀l:List Int,(qs l).foldl (fun (d:Int) q=>(d*q.den).tdiv (Int.gcd d q.den)) 1=1:=by
  intro l
  induction l with
  | nil=>rfl
  | cons a l ih =>
   simp only [qs,List.map_cons,List.foldl_cons,Rat.den_intCast]at ih ⊢
   exact ih
 exact key x
theorem TB(x:List Int):JW 1 (qs x)=bB x:=by
 have key:∀(l:List Int) (g:Nat),(qs l).foldl (fun (g:Int) q=>(Int.gcd g ((q.num*1).tdiv q.den):Int)) g=(l.foldl (fun g c=>Nat.gcd g c.natAbs) g:Nat):=by
  intro l
  induction l with
  | nil=>intro g;rfl
  | cons a l ih =>
   intro g
   have:=ih (Nat.gcd g a.natAbs)
   simp only [qs,List.map_cons,List.foldl_cons,Rat.den_intCast,Rat.num_intCast]at this ⊢
   rw [←this]
   congr 1
   simp [Int.gcd]
 exact key x 0
theorem AW(x:List Int)(i:Nat):(qs x).take i=qs (x.take i):=by simp [qs,List.map_take]
theorem vY{x:List Int}(hx:0<x.length):HQ (qs x)=(i3 x:Rat):=by
 have e:(nth (qs x) ((qs x).length-1)).num=lead x:=by rw [SD];simp [lead]
 unfold HQ i3
 rw [AV,TB,i5,e]
 split
 ·rw [Rat.intCast_neg]
 ·rfl
theorem aeL{x:List Int}(cx:Cn x)(hx:x ≠ []):qpr (qs x)=qs (nQ x):=by
 have vG:=List.length_pos_iff.2 hx
 have h0:=kJ x
 have gx:=cE cx hx
 have hp:i3 x≠0:=by omega
 have hc:=eP hp
 rw [qpr,vY vG,iM,nQ,←qK]
 congr 1
 simp only [qs,List.map_map]
 refine List.map_congr_left fun v hv=>?_
 simp only [Function.comp_apply]
 have hd:=AO x v hv
 obtain⟨w,rfl⟩:=hd
 have:i6 (i3 x) (i3 x*w)=w:=by
  unfold i6
  rw [if_pos (Int.mul_emod_right _ _)]
  exact Int.mul_ediv_cancel_left _ hp
 rw [this,Rat.intCast_mul]
 grind
theorem jR{x:List Int}{s:Nat}(hs:∀c∈x,sz 2 c≤s):sz 2 (bB x:Int)≤s:=by
 by_cases h:∃c∈x,c≠0
 ·obtain⟨c,hc,h0⟩:=h
  refine Nat.le_trans (cQ (by decide) ?_) (hs c hc)
  have:=Int.le_of_dvd (a:=(bB x:Int)) (b:=(c.natAbs:Int)) (by omega) (Int.dvd_natAbs.2 (eG x _ hc))
  omega
 ·have h1:bB x=0:=by
   have h2:(0:Nat)∣bB x:=vW fun c hc=>by
    have:c=0:=Classical.byContradiction fun h3=>h ⟨c,hc,h3⟩
    rw [this];exact Int.dvd_refl _
   exact Nat.eq_zero_of_zero_dvd h2
  rw [h1];show sz 2 0≤s;rw [iH];omega
theorem vZ(x:List Int){s n:Nat}(hx:Bd 2 s n x)(cx:Cn x)(xF:1≤s)(hs:s≤YY)(hn:n<1099511627776):aZ env.P 155 [PI x] (.eQ [.ag (ri (i3 x)),PI (nQ x)]):=by
 have XV:=hx.len
 by_cases h0:x = []
 ·subst h0
  have hz:=n8
  rw [show i3 ([]:List Int)=0 by decide,show nQ ([]:List Int) = []from rfl]
  refine cL [(0,PI [])] Tryz.func155 ?_
  refine aB [0,2] ?_
  refine aQ [0,2,11] ?_
  refine bO ?_ ?_<;>intro h
  ·refine bT [2,3] hz ?_
   refine W.ret ?_
   simp [go]
   all_goals rfl
  ·simp at h
 ·have vG:=List.length_pos_iff.2 h0
  have hp:=kJ x
  have gx:=cE cx h0
  have Z2:i3 x≠0:=by omega
  have hgs:∀i,sz 2 (bB (x.take i):Int)≤s:=fun i=>jR fun c hc=>hx.sz c (List.mem_of_mem_take hc)
  have yR:sz 2 (i3 x)≤s:=by
   have:=jR hx.sz
   unfold i3;split
   ·rw [nD];exact this
   ·exact this
  have s1:sz 2 1≤1:=cX (by decide) (by decide)
  have zc:ZR YY (i3 x:Rat):=nN (Nat.le_trans yR hs) (by decide)
  have e1:(1:Rat)/(i3 x:Rat)=dA 1 (i3 x):=by rw [dS Z2];simp
  have:=nR (qs x) hs xF (fun q hq=>by
   simp only [qs,List.mem_map]at hq
   obtain⟨c,hc,rfl⟩:=hq
   exact nN (hx.sz c hc) xF) (by simp;omega) (by simpa [qs]using h0)
   (fun i=>by rw [AW,AV];omega) (fun i=>by rw [AW,AV];decide) (fun i=>by rw [AV,AW,TB];exact hgs i)
   (by rw [vY vG];exact zc) (by rw [vY vG];exact eP Z2) (by rw [vY vG,e1];exact pO Z2 (by show sz 2 1≤137438953472;omega) (Nat.le_trans yR hs))
  rw [vY vG,aeL cx h0,oY,oY,RR,fJ]at this
  exact this
theorem M9{D a b:Nat}(hD:0<D)(ha:a∣D)(hb:b∣D):Nat.lcm (D/a) (D/b)=D/Nat.gcd a b:=by
 have ha0:0<a:=Nat.pos_of_dvd_of_pos ha hD
 have hb0:0<b:=Nat.pos_of_dvd_of_pos hb hD
 have hg:0<Nat.gcd a b:=Nat.gcd_pos_of_pos_left _ ha0
 obtain⟨a',b',hc,ea,eb⟩:=Nat.exists_coprime a b
 generalize Nat.gcd a b=g at *
 obtain⟨p,hp⟩:=ha
 obtain⟨q,hq⟩:=hb
 have h1:a'*p=b'*q:=by
  have:g*(a'*p)=g*(b'*q):=by rw [ea]at hp;rw [eb]at hq;grind
  exact Nat.eq_of_mul_eq_mul_left hg this
 have h2:a'∣q:=hc.dvd_of_dvd_mul_left (by rw [←h1];exact Nat.dvd_mul_right _ _)
 obtain⟨m,rfl⟩:=h2
 have apz:0<a':=by
  rcases Nat.eq_zero_or_pos a' with h | h
  ·rw [h]at ea;omega
  ·exact h
 have h3:p=b'*m:=by
  have:a'*p=a'*(b'*m):=by rw [h1];grind
  exact Nat.eq_of_mul_eq_mul_left apz this
 subst h3
 have e1:D/a=b'*m:=by rw [hp];exact Nat.mul_div_cancel_left _ ha0
 have e2:D/b=a'*m:=by rw [hq];exact Nat.mul_div_cancel_left _ hb0
 have e3:D/g=a'*b'*m:=by
  rw [hp,ea,show a'*g*(b'*m)=g*(a'*b'*m)by grind]
  exact Nat.mul_div_cancel_left _ hg
 rw [e1,e2,e3,Nat.lcm_mul_right,Nat.lcm_comm,Nat.lcm,show a'.gcd b'=1 from hc,Nat.div_one]
theorem TC(n:Nat)(q:Rat):((n:Int)*q.den).tdiv (Int.gcd n q.den)=(Nat.lcm n q.den:Nat):=by
 have:Int.gcd (n:Int) (q.den:Int)=Nat.gcd n q.den:=rfl
 rw [this,←Int.natCast_mul,←Int.ofNat_tdiv]
 rfl
theorem sN{v:Int}{D:Nat}(hD:0<D):(dA v D).den=D/Nat.gcd D v.natAbs:=by
 have h:=tO v D (by omega)
 have h2:¬(D:Int)<0:=by omega
 simp only [h2,if_false]at h
 have:Int.gcd v (D:Int)=Nat.gcd D v.natAbs:=by rw [Int.gcd,Nat.gcd_comm];rfl
 rw [this]at h
 exact_mod_cast h
theorem sO{v:Int}{D:Nat}(hD:0<D):(dA v D).num=v/(Nat.gcd D v.natAbs:Nat):=by
 have h:=tN v D (by omega)
 have h2:¬(D:Int)<0:=by omega
 simp only [h2,if_false]at h
 have:Int.gcd v (D:Int)=Nat.gcd D v.natAbs:=by rw [Int.gcd,Nat.gcd_comm];rfl
 rw [this]at h
 exact h
def OD(D:Nat)(x:List Int):Nat:=Nat.gcd D (bB x)
theorem AX{D:Nat}(hD:0<D)(x:List Int):BK (qd x D)=(D/OD D x:Nat):=by
 have key:∀(l:List Int) (g:Nat),g∣D→(qd l D).foldl (fun (d:Int) q=>(d*q.den).tdiv (Int.gcd d q.den)) (D/g:Nat)=(D/(l.foldl (fun g c=>Nat.gcd g c.natAbs) g):Nat):=by
  intro l
  induction l with
  | nil=>intro g _;rfl
  | cons a l ih =>
   intro g hg
   have h1:=ih (Nat.gcd g a.natAbs) (Nat.dvd_trans (Nat.gcd_dvd_left _ _) hg)
   simp only [qd,List.map_cons,List.foldl_cons]at h1 ⊢
   rw [TC,sN hD,M9 hD hg (Nat.gcd_dvd_left _ _)]
   rw [show Nat.gcd g (Nat.gcd D a.natAbs)=Nat.gcd g a.natAbs by rw [←Nat.gcd_assoc,Nat.gcd_eq_left hg]]
   exact h1
 have h2:∀(l:List Int) (g:Nat),l.foldl (fun g c=>Nat.gcd g c.natAbs) g=Nat.gcd g (bB l):=by
  intro l
  unfold bB
  induction l with
  | nil=>intro g;simp
  | cons a l ih =>
   intro g
   simp only [List.foldl_cons]
   rw [ih,ih (Nat.gcd 0 a.natAbs),Nat.gcd_zero_left,Nat.gcd_assoc]
 have h3:=key x D (Nat.dvd_refl _)
 rw [Nat.div_self hD,h2]at h3
 exact h3
theorem TD{D:Nat}(hD:0<D)(x:List Int){G:Nat}(hG:G∣D)(hx:∀c∈x,(G:Int)∣c):JW (D/G:Nat) (qd x D)=(bB x/G:Nat):=by
 have hG0:0<G:=Nat.pos_of_dvd_of_pos hG hD
 have key:∀(l:List Int) (g:Nat),(∀c∈l,(G:Int)∣c)→G∣g→(qd l D).foldl (fun (g:Int) q=>(Int.gcd g ((q.num*((D/G:Nat):Int)).tdiv q.den):Int)) (g/G:Nat)=((l.foldl (fun g c=>Nat.gcd g c.natAbs) g)/G:Nat):=by
  intro l
  induction l with
  | nil=>intro g _ _;rfl
  | cons a l ih =>
   intro g hl hg
   have ha:G∣a.natAbs:=Int.ofNat_dvd_left.1 (hl a (by simp))
   have h1:=ih (Nat.gcd g a.natAbs) (fun c hc=>hl c (by simp [hc])) (Nat.dvd_gcd hg ha)
   simp only [qd,List.map_cons,List.foldl_cons]at h1 ⊢
   have e:((dA a D).num*((D/G:Nat):Int)).tdiv (dA a D).den=a/(G:Int):=by
    rw [sO hD,sN hD]
    have VE:Nat.gcd D a.natAbs∣D:=Nat.gcd_dvd_left _ _
    have K4:Nat.gcd D a.natAbs∣a.natAbs:=Nat.gcd_dvd_right _ _
    have hgp:0<Nat.gcd D a.natAbs:=Nat.gcd_pos_of_pos_left _ hD
    generalize Nat.gcd D a.natAbs=k at *
    obtain⟨m,hm⟩:=VE
    obtain⟨n,hn⟩:(k:Int)∣a:=Int.ofNat_dvd_left.2 K4
    obtain⟨p,hp⟩:=hG
    obtain⟨r,hr⟩:=hl a (by simp)
    have E5:0<m:=by
     rcases Nat.eq_zero_or_pos m with h | h
     ·rw [h]at hm;omega
     ·exact h
    rw [show a/(k:Int)=n by rw [hn];exact Int.mul_ediv_cancel_left _ (by omega),show D/G=p by rw [hp];exact Nat.mul_div_cancel_left _ hG0,show D/k=m by rw [hm];exact Nat.mul_div_cancel_left _ hgp,
     show a/(G:Int)=r by rw [hr];exact Int.mul_ediv_cancel_left _ (by omega)]
    have e2:n*(p:Int)=m*r:=by
     have hDI:(k:Int)*m=G*p:=by exact_mod_cast hm.symm.trans hp
     have hk:(k:Int)*n=G*r:=hn.symm.trans hr
     have wQ:(k:Int)≠0:=by omega
     have hG1:(G:Int)≠0:=by omega
     have:(k:Int)*G*(n*p)=k*G*(m*r):=by
      have e3:(k:Int)*G*(n*p)=(k*n)*(G*p):=by grind
      rw [e3,hk,←hDI];grind
     exact Int.eq_of_mul_eq_mul_left (Int.mul_ne_zero wQ hG1) this
    rw [e2]
    exact Int.mul_tdiv_cancel_left _ (by omega)
   rw [e,show Int.gcd ((g/G:Nat):Int) (a/(G:Int))=Nat.gcd g a.natAbs/G from ?_]
   ·exact h1
   ·rw [Int.gcd,Int.natAbs_natCast,←Nat.gcd_div hg ha]
    congr 1
    obtain⟨r,hr⟩:=hl a (by simp)
    rw [hr,Int.mul_ediv_cancel_left _ (show (G:Int)≠0 by omega),Int.natAbs_mul,Int.natAbs_natCast,Nat.mul_div_cancel_left _ hG0]
 have:=key x 0 hx (Nat.dvd_zero _)
 rw [Nat.zero_div]at this
 exact this
theorem qS(D:Nat)(x:List Int):OD D x∣D:=Nat.gcd_dvd_left _ _
theorem JY{D:Nat}(hD:0<D)(x:List Int):0<OD D x:=Nat.gcd_pos_of_pos_left _ hD
theorem JZ(D:Nat)(x:List Int):∀c∈x,((OD D x:Nat):Int)∣c:=fun c hc=>Int.dvd_trans (Int.ofNat_dvd.2 (Nat.gcd_dvd_right _ _)) (eG x c hc)
theorem sP{v:Int}{D:Nat}(hD:0<D):(dA v D).num<0↔v<0:=by
 rw [sO hD]
 have hg:0<Nat.gcd D v.natAbs:=Nat.gcd_pos_of_pos_left _ hD
 obtain⟨n,hn⟩:((Nat.gcd D v.natAbs:Nat):Int)∣v:=Int.ofNat_dvd_left.2 (Nat.gcd_dvd_right _ _)
 generalize Nat.gcd D v.natAbs=g at *
 rw [hn,Int.mul_ediv_cancel_left _ (show (g:Int)≠0 by omega)]
 constructor
 ·intro h;exact Int.mul_neg_of_pos_of_neg (by omega) h
 ·intro h
  rcases Int.lt_or_le n 0 with h1 | h1
  ·exact h1
  ·have:=Int.mul_nonneg (show (0:Int)≤g by omega) h1
   omega
theorem TE{D:Nat}(hD:0<D){x:List Int}(hx:0<x.length):HQ (qd x D)=dA (i3 x) D:=by
 have J0:(D:Int)≠0:=by omega
 have e:(nth (qd x D) ((qd x D).length-1)).num<0↔lead x<0:=by
  rw [AR J0,sP hD];simp [lead]
 have hG:=JY hD x
 have e2:dA (JW (BK (qd x D)) (qd x D)) (BK (qd x D))=dA (bB x) D:=by
  rw [AX hD,TD hD x (qS D x) (JZ D x)]
  have h1:D/OD D x*OD D x=D:=Nat.div_mul_cancel (qS D x)
  have h2:bB x/OD D x*OD D x=bB x:=Nat.div_mul_cancel (Nat.gcd_dvd_right _ _)
  have h3:0<D/OD D x:=Nat.div_pos (Nat.le_of_dvd hD (qS D x)) hG
  have h4:=JU (v:=(bB x/OD D x:Nat)) (D:=(D/OD D x:Nat)) (l:=(OD D x:Nat)) (by omega) (by omega)
  rw [←Int.natCast_mul,←Int.natCast_mul,h1,h2]at h4
  exact h4.symm
 unfold HQ i3
 rw [e2]
 by_cases h:lead x<0
 ·rw [if_pos (e.2 h),if_pos h,←JV J0];grind
 ·rw [if_neg (fun h2=>h (e.1 h2)),if_neg h]
theorem J1{v D:Int}(hD:D≠0)(hv:v≠0):1/dA v D=dA D v:=by
 rw [dS hD,dS hv]
 have h1:=eP hD
 have h2:=eP hv
 grind
theorem HR{x:List Int}(cx:Cn x)(hx:x ≠ []):i3 x≠0:=by
 have h0:=kJ x
 have gx:=cE cx hx
 omega
theorem aeN{D:Nat}(hD:0<D){x:List Int}(cx:Cn x)(hx:x ≠ []):qpr (qd x D)=qs (nQ x):=by
 have vG:=List.length_pos_iff.2 hx
 have J0:(D:Int)≠0:=by omega
 have hp:=HR cx hx
 have hc:=eP hp
 have hDc:=eP J0
 rw [qpr,TE hD vG,J1 J0 hp,iM,nQ,←qK]
 congr 1
 simp only [qd,qs,List.map_map]
 refine List.map_congr_left fun v hv=>?_
 simp only [Function.comp_apply]
 obtain⟨w,rfl⟩:=AO x v hv
 have:i6 (i3 x) (i3 x*w)=w:=by
  unfold i6
  rw [if_pos (Int.mul_emod_right _ _)]
  exact Int.mul_ediv_cancel_left _ hp
 rw [this,dS J0,dS hp,Rat.intCast_mul]
 grind
theorem EB(x:List Int):jL x=if lead x<0 then fC (nQ x)else nQ x:=by
 unfold nQ i3
 split
 ·have e:∀v,i6 (-(bB x:Int)) v = - i6 (bB x) v:=fun v=>by
   unfold i6
   rw [Int.emod_neg,Int.ediv_neg]
   split<;>simp
  refine Cn.ext (Cn.cut _) (Cn.fC _) fun t=>?_
  rw [z8,cD,jL,cD]
  have h1:=eY (t:=t) (-1) (i6 (bB x)) x
  have h2:(x.map fun v=>i6 (bB x) v * -1)=x.map (i6 (-(bB x:Int))):=List.map_congr_left fun v _=>by rw [e];omega
  rw [h2]at h1
  rw [h1];omega
 ·rfl
theorem HS(x:List Int)(D:Nat)(hD:0<D){s n:Nat}(hx:Bd 2 s n x)(sD:sz 2 D≤s)(cx:Cn x)(h0:x ≠ [])(xF:1≤s)(hs:s≤YY)(hn:n<1099511627776) :
  aZ env.P 155 [PP (qd x D)] (.eQ [RR (dA (i3 x) D),PI (nQ x)]):=by
 have J0:(D:Int)≠0:=by omega
 have vG:=List.length_pos_iff.2 h0
 have hp:=HR cx h0
 have hlen:=hx.len
 have sdiv:∀(a b:Nat),sz 2 (a:Int)≤s→sz 2 ((a/b:Nat):Int)≤s:=fun a b h=>Nat.le_trans (cQ (by decide) (by rw [Int.natAbs_natCast,Int.natAbs_natCast];exact Nat.div_le_self a b)) h
 have spc:sz 2 (i3 x)≤s:=by
  have:=jR hx.sz
  refine Nat.le_trans (cQ (by decide) (Nat.le_of_eq ?_)) this
  rw [kJ];rfl
 have tk:∀i,(qd x D).take i=qd (x.take i) D:=fun i=>by simp [qd,List.map_take]
 have hc:=TE hD vG
 have h1:=nR (qd x D) (k:=s) hs xF (fun q hq=>by
   simp only [List.mem_map]at hq
   obtain⟨v,hv,rfl⟩:=hq
   exact pO J0 (hx.sz v hv) sD) (by simp;omega) (by simpa using h0)
  (fun i=>by rw [tk,AX hD];exact sdiv _ _ sD)
  (fun i=>by
   rw [tk,AX hD]
   have:=Nat.div_pos (Nat.le_of_dvd hD (qS D (x.take i))) (JY hD _)
   omega)
  (fun i=>by
   rw [tk,AX hD,TD hD (x.take i) (qS D x) (fun c hc=>JZ D x c (List.mem_of_mem_take hc))]
   exact sdiv _ _ (jR fun c hc=>hx.sz c (List.mem_of_mem_take hc)))
  (by rw [hc];exact pO J0 (Nat.le_trans spc hs) (Nat.le_trans sD hs))
  (by rw [hc];exact fun h=>hp ((sM J0).1 h))
  (by rw [hc,J1 J0 hp];exact pO hp (Nat.le_trans sD hs) (Nat.le_trans spc hs))
 rw [hc,aeN hD cx h0,oY]at h1
 exact h1
theorem TF{x:List Int}{s n:Nat}(hx:Bd 2 s n x):Bd 2 s n (nQ x):=Bd.cut ⟨by simpa using hx.len,fun c hc=>by
 simp only [List.mem_map]at hc
 obtain⟨v,hv,rfl⟩:=hc
 refine Nat.le_trans (cQ (by decide) ?_) (hx.sz v hv)
 unfold i6
 split
 ·exact Int.natAbs_ediv_le_natAbs _ _
 ·simp⟩
theorem EC(x:List Int)(D:Nat)(hD:0<D){s n:Nat}(hx:Bd 2 s n x)(sD:sz 2 D≤s)(cx:Cn x)(xF:1≤s)(hs:s≤YY)(hn:n<1099511627776) :
  aZ env.P 159 [PP (qd x D)] (PI (jL x)):=by
 have J0:(D:Int)≠0:=by omega
 have bp:=TF hx
 have hN:=yN (nQ x) (bp.mono hs (by omega))
 rw [EB]
 have hP:∃q:Rat,aZ env.P 155 [PP (qd x D)] (.eQ [RR q,PI (nQ x)])∧(q.num<0↔lead x<0):=by
  by_cases h0:x = []
  ·subst h0
   refine⟨(i3 []:Int),?_,?_⟩
   ·have:=vZ [] hx cx xF hs hn
    rw [RR,fJ]
    exact this
   ·rw [show i3 ([]:List Int)=0 by decide];decide
  ·refine⟨_,HS x D hD hx sD cx h0 xF hs hn,?_⟩
   rw [sP hD]
   have gx:=cE cx h0
   unfold i3
   split<;>omega
 obtain⟨q,hP,hq⟩:=hP
 generalize nQ x=y at *
 generalize qd x D=l at *
 refine cL [(0,PP l)] Tryz.func159 ?_
 refine aB [0] ?_
 refine bT [3,4] hP ?_
 refine aQ [4,12] ?_
 refine bO ?_ ?_<;>intro h
 ·simp at h
  rw [if_pos (hq.1 h)]
  refine bT [2] hN ?_
  exact cV
 ·have h:¬q.num<0:=by simpa using h
  rw [if_neg (fun h2=>h (hq.2 h2))]
  refine W.skip ?_
  refine aB [2] ?_
  exact cV
def CV.doc(c:CV):List PV:=PP (qd c.x c.d)::PP (qd c.y c.d)::c.cells
@[simp] theorem CV.amC{c:CV}:c.doc = [PP (qd c.x c.d),PP (qd c.y c.d),Po c.x,Po c.y, .bool (decide (c.d<0)),aX u32 (a5 LL c.d.natAbs)]:=rfl
def still(x y:Int):RC:=⟨(aG [x]).map jU,(aG [y]).map jU,false,[]⟩
theorem ED(x y:Int):(still x y).nc=nC (aG [x]) (aG [y]) 0:=by
 show nC (fP ((aG [x]).map jU)) (fP ((aG [y]).map jU)) (iv false [])=_
 rw [tQ,tQ,cR,cR];rfl
theorem TG{x y:Int}(hx : -9223372036854775808≤x∧x<9223372036854775808)(hy : -9223372036854775808≤y∧y<9223372036854775808):(still x y).OK 2 1:=by
 have hz:∀v:Int, -9223372036854775808≤v∧v<9223372036854775808→Bd LL 2 1 (aG [v]):=fun v hv=>Bd.cut ⟨by simp,fun c hc=>by
  simp only [List.mem_cons,List.not_mem_nil,or_false]at hc
  subst hc
  exact cX eV (by show c.natAbs<4294967296^2;omega)⟩
 refine⟨(PB.of (hz x hx) (by decide) (by decide)).tP,(PB.of (hz y hy) (by decide) (by decide)).tP,⟨b6.nil,by show 0<1099511627776;decide⟩,?_,?_,?_,by decide,by decide,by decide⟩
 ·show Bd LL 2 1 (((aG [x]).map jU).map gv)
  rw [bC];exact hz x hx
 ·show Bd LL 2 1 (((aG [y]).map jU).map gv)
  rw [bC];exact hz y hy
 ·show sz LL 0≤2
  rw [iH];omega
theorem Y2{x y:RP}{s n:Nat}(h:(RC.mk x y false []).OK s n):aZ env.P 174 [Pg x,Pg y] (.ag (RC.mk x y false []).nc.cells):=by
 have n1:=h.norm
 generalize (RC.mk x y false []).nc=v at *
 simp only [RC.cS,CV.cS]at *
 replace n1:aZ env.P 237 [.ag [Pg x,Pg y, .bool false, .sl []]] (.ag [Po v.x,Po v.y, .bool (decide (v.d<0)),aX u32 (a5 LL v.d.natAbs)]):=n1
 refine cL [(0,Pg x),(1,Pg y)] Tryz.func174 ?_
 refine aB [0,1,4] ?_
 refine bT [4] n1 ?_
 exact cV
theorem yT{x y:Int}(hx : -9223372036854775808≤x∧x<9223372036854775808)(hy : -9223372036854775808≤y∧y<9223372036854775808):aZ env.P 95 [.int .i64 x, .int .i64 y] (.ag (still x y).nc.cells):=by
 have o1:aZ env.P 11 [.sl [[.int .i64 x]]] (Po (aG [x])):=JE [x] (by simp) (by simpa using hx)
 have o2:aZ env.P 11 [.sl [[.int .i64 y]]] (Po (aG [y])):=JE [y] (by simp) (by simpa using hy)
 have c1:=Y2 (TG hx hy)
 rw [←fB,←fB]at c1
 rw [show(RC.mk ((aG [x]).map jU) ((aG [y]).map jU) false [])=still x y from rfl]at c1
 generalize (still x y).nc=v at *
 generalize aG [x]=px at *
 generalize aG [y]=py at *
 simp only [CV.cS]at *
 refine cL [(0, .int .i64 x),(1, .int .i64 y)] Tryz.func95 ?_
 refine aB [0,1,4] ?_
 refine j1 ?_
 refine cM o1 ?_
 refine cM o2 ?_
 refine c7 [4] c1 ?_
 exact cV
def CV.rc(v:CV):RC:=⟨v.x.map jU,v.y.map jU,decide (v.d<0),a5 LL v.d.natAbs⟩
theorem CV.ext'{a b:CV}(h1:a.x=b.x)(h2:a.y=b.y)(h3:a.d=b.d):a=b:=by
 cases a;cases b;simp only at h1 h2 h3;subst h1 h2 h3;rfl
theorem CV.aby(v:CV):v.rc.nc=nC (aG v.x) (aG v.y) v.d:=by
 show nC (fP (v.x.map jU)) (fP (v.y.map jU)) (iv (decide (v.d<0)) (a5 LL v.d.natAbs))=_
 rw [tQ,tQ,qG]
theorem CV.abz{v:CV}(hx:Bd LL 2 1 v.x)(hy:Bd LL 2 1 v.y)(hd:sz LL v.d≤2):v.rc.OK 2 1:=by
 refine⟨(PB.of hx (by decide) (by decide)).tP,(PB.of hy (by decide) (by decide)).tP,Sz.L4 (Nat.lt_of_le_of_lt hd (by decide)),?_,?_,?_,by decide,by decide,by decide⟩
 ·show Bd LL 2 1 ((v.x.map jU).map gv)
  rw [bC];exact hx
 ·show Bd LL 2 1 ((v.y.map jU).map gv)
  rw [bC];exact hy
 ·show sz LL (iv (decide (v.d<0)) (a5 LL v.d.natAbs))≤2
  rw [qG];exact hd
theorem apA:nC [] [] 0=⟨[],[],1⟩:=CV.ext' (by decide +kernel) (by decide +kernel) (by decide +kernel)
theorem apB:nC [1] [] 0=⟨[1],[],1⟩:=CV.ext' (by decide +kernel) (by decide +kernel) (by decide +kernel)
theorem apC:nC [] [] 1=⟨[],[],1⟩:=CV.ext' (by decide +kernel) (by decide +kernel) (by decide +kernel)
theorem apD:nC [1] [] 1=⟨[1],[],1⟩:=CV.ext' (by decide +kernel) (by decide +kernel) (by decide +kernel)
theorem Y3:Bd LL 2 1 []∧Bd LL 2 1 [1]:=⟨⟨by decide,fun c hc=>by cases hc⟩,⟨by decide,fun c hc=>by
 simp only [List.mem_cons,List.not_mem_nil,or_false]at hc
 subst hc;exact cX eV (by decide)⟩⟩
theorem Bd1:sz LL 1≤2:=cX eV (by decide)
theorem EE(x y:List Int){s s' N:Nat}(hx:Bd 2 s N x)(hy:Bd 2 s' N y)(cx:Cn x)(cy:Cn y)(G6:0<y.length)(hs:1≤s)(hB:s+(N+1)*(s'+N+2)+s'+N+N+10<137438953472) :
  aZ env.P 256 [PP (qs x),PP (qs y)] (.eQ [PP (qd (aG (S6 x y).Q) (S6 x y).D),PP (qd (S6 x y).r (S6 x y).D)]):=by
 have hNx:=hx.len
 have hNy:=hy.len
 have hl:=dR cy G6
 have YN:=iJ hy
 have hM:x.length+1≤N+1:=by omega
 refine b9 (E:=env) (fun id=>if id=17 then 2 else 0) [(0,PP (qs x)),(1,PP (qs y))] Tryz.func256 rfl (by kernel_rfl) (by kernel_rfl) (show 2≤84 by decide) (by simp) ?_
 obtain⟨R0,F6⟩:∃R0,R0=M7 y (x.length+1) ⟨List.replicate (gM x y) 0,x,1⟩:=⟨_,rfl⟩
 rw [show S6 x y=R0 from F6.symm]
 have hkN:gM x y≤N:=by unfold gM;omega
 have hkk:(if (x.length:Int)-(y.length:Int)+1<0 then 0 else(x.length:Int)-(y.length:Int)+1)=(gM x y:Int):=by unfold gM;split<;>omega
 have hI0:pP x y ⟨List.replicate (gM x y) 0,x,1⟩:=pP.start cx
 generalize wQ:gM x y=k0 at *
 obtain⟨a0,ha0⟩:∃a0,a0=qs x:=⟨_,rfl⟩
 obtain⟨yq,hyq⟩:∃yq,yq=qs y:=⟨_,rfl⟩
 have la0:a0.length=x.length:=by rw [ha0];simp
 have lyq:yq.length=y.length:=by rw [hyq];simp
 rw [←ha0,←hyq]
 refine aB [0,1] ?_
 refine W.sr ?_
 simp (disch:=omega) [gw,la0,lyq,hkk]
 refine bF [0,1,6] ?_
 refine aQ [0,1,6,21,22] ?_
 refine W.block ?_
 refine W.a9 (fun k σ=>∃(i ver:Nat) (els:List (List PV)) (rows:Pm.Rows) (clk:Nat),σ=⟨fa [(0,PP a0),(1,PP yq),(6, .own 19 ver 0 k0),(21, .int .i64 k0),(22, .int .i64 i)],rows,clk⟩ ∧
  rows 19=some ⟨ver,31,4,els⟩∧els.length=k0∧(∀e∈els,e.length=4)∧els.take i=emap ri (List.replicate i 0)∧k=k0-i∧i≤k0) k0 ?_ ?_
 ·exact⟨_, .refl,0,_,List.replicate k0 [.nil, .bool false, .nil, .bool false],_,_,rfl,by simp,by simp,by simp,by simp [emap],by omega,by omega⟩
 rintro k _ ⟨i,ver,els,rows,clk,rfl,hr,mN,DP,vM,hk,hi⟩
 have RZ:a8 4 els=True:=by simp only [a8,eq_iff_iff,iff_true];exact DP
 refine cH [0,1,6,21,22,23] ?_
 refine bO ?_ ?_<;>intro h
 ·have h:i<k0:=by simp at h;omega
  refine iS ?_
  refine aB [0,1,6,7,21,22] ?_
  refine W.cA (fun K hK=>?_)
  simp (disch:=omega) [gw]
  refine aD n8 ?_
  have sI:i<els.length:=by omega
  have hE:p6 els i 4=True:=by
   simp only [eq_iff_iff,iff_true]
   exact⟨els[i],List.getElem?_eq_getElem sI,by rw [DP _ (List.getElem_mem sI)];omega⟩
  have hS:fO els i 0 [aX aO (a5 DD 0), .bool false,aX aO (a5 DD 1), .bool false]=els.set i (ri 0):=by
   have h4:=DP _ (List.getElem_mem sI)
   rw [fO,List.getElem?_eq_getElem sI]
   simp [List.drop_of_length_le,h4]
  simp (disch:=omega) [gw,hr,hE,hS]
  refine W.lw [0,1,6,21,22] hK ?_;clear hK K;simp
  refine W.cA (fun K hK=>?_);simp (disch:=omega) [gw]
  refine hK _ ⟨k0-(i+1),_,aC _ [0,1,6,21,22],by omega,i+1,ver,els.set i (ri 0),_,_,rfl,by simp,by simpa using mN,fun e he=>?_,?_,by omega,by omega⟩
  ·rcases List.mem_or_eq_of_mem_set he with h1 | h1
   ·exact DP e h1
   ·rw [h1];rfl
  ·rw [jC vM (by omega),List.replicate_succ']
   simp [emap]
 have h:i=k0:=by simp at h;omega
 subst h
 have o9:els=emap re (qd (List.replicate i 0) 1):=by rw [AS,vX,←vM,bA mN]
 subst o9
 rw [show a0=qd x 1 by rw [ha0,AS]]
 clear vM DP mN RZ hk hi hkk ha0 la0 a0
 refine eH ?_
 refine W.seq ?_
 refine W.block ?_
 generalize hdd:s'+N+2=d at *
 have SP:∀j,(x.length+1-j)*d≤(N+1)*d:=fun j=>Nat.mul_le_mul_right _ (by omega)
 refine W.a9 (fun n σ=>∃(Q r:List Int) (D:Int) (v6:Nat) (rows:Pm.Rows) (clk:Nat),σ=⟨fa [(0,PP (qd r D)),(1,PP yq),(6, .own 19 v6 0 i)],rows,clk⟩ ∧
  rows 19=some ⟨v6,31,4,emap re (qd Q D)⟩∧Q.length=i∧pP x y ⟨Q,r,D⟩∧r.length<n∧n≤x.length+1∧M7 y n ⟨Q,r,D⟩=R0∧Bd 2 (s+(x.length+1-n)*d) N r∧sz 2 D≤s+(x.length+1-n)*d) (x.length+1) ?_ ?_
 ·exact⟨_,aC _ [0,1,6],_,x,1,_,_,_,rfl,hr,by simp,hI0,by omega,by omega,F6.symm,hx.mono (by omega) (by omega),Nat.le_trans (cX (k:=1) (by decide) (by decide)) (by omega)⟩
 clear hr rows clk ver
 rintro n _ ⟨Q,r,D,v6,rows,clk,rfl,hr,hQ,hI,hrn,hnM,hd,br,bD⟩
 have hD:D≠0:=hI.d
 have hnn:=SP n
 obtain⟨a,ha⟩:∃a,a=qd r D:=⟨_,rfl⟩
 have la:a.length=r.length:=by rw [ha];simp
 rw [←ha]
 refine W.seq ?_
 refine W.sr ?_
 simp (disch:=omega) [gw,la,lyq]
 refine bF [0,1,6,34] ?_
 refine bO ?_ ?_<;>intro h
 ·have h:y.length≤r.length:=by simp at h;omega
  obtain⟨n,rfl⟩:∃m,n=m+1:=⟨n-1,by omega⟩
  obtain⟨k,hk⟩:∃k,k=r.length-y.length:=⟨_,rfl⟩
  have hkI:(r.length:Int)-(y.length:Int)=k:=by omega
  have V2:k<i:=by have:=hI.q.resolve_right (show ¬r.length<y.length by omega);simp only at this;omega
  have UZ:=hI.step cy G6 h
  have N9:=AU (σ:=⟨Q,r,D⟩) G6 h
  rw [M7,if_neg (show ¬r.length<y.length by omega)]at hd
  simp only [dst,←hk]at UZ N9 hd
  have hT:s+(x.length+1-n)*d=s+(x.length+1-(n+1))*d+d:=by
   rw [show x.length+1-n=(x.length+1-(n+1))+1 by omega,Nat.add_mul,Nat.one_mul];omega
  have hn3:=SP n
  generalize hU:s+(x.length+1-(n+1))*d=U at *
  have hlr:=iJ br
  have hNr:=br.len
  have MW:D*lead y≠0:=Int.mul_ne_zero hD hl
  have zD2:sz 2 (D*lead y)≤U+s':=cZ (by decide) bD YN
  have hp:nth a (r.length-1)=dA (lead r) D:=by rw [ha,AR hD];rfl
  have DY:nth yq (y.length-1)=(lead y:Rat):=by rw [hyq,SD];rfl
  have akL:=DL (dA (lead r) D) (lead y:Rat) (pO hD (Nat.le_trans hlr (by show U≤137438953472;omega)) (Nat.le_trans bD (by show U≤137438953472;omega))) (nN (Nat.le_trans YN (by show s'≤137438953472;omega)) (by decide)) (eP hl)
  rw [YV hD hl]at akL
  have hSc:=pM yq (dA (lead r) (D*lead y)) (by rw [hyq];exact MM.qs (fun c hc=>Nat.le_trans (hy.sz c hc) (by show s'≤137438953472;omega)) (by omega)) (pO MW (Nat.le_trans hlr (by show U≤137438953472;omega)) (Nat.le_trans zD2 (by show U+s'≤137438953472;omega)))
  rw [hyq,M6 MW,←hyq]at hSc
  have bsc:Bd 2 (U+s') N (aL y (lead r)):=(hy.aL (by decide) hlr).mono (by omega) (by omega)
  have bw:Bd 2 (U+s') N (List.replicate k 0++aL y (lead r)):=⟨by have:=lP y (lead r);simp;omega,fun c hc=>by
   rcases List.mem_append.1 hc with h1 | h1
   ·rw [(List.mem_replicate.1 h1).2,iH];omega
   ·exact bsc.sz c h1⟩
  have brl:Bd 2 (U+s') N (r.map (· * lead y)):=⟨by simpa using br.len,fun c hc=>by
   simp only [List.mem_map]at hc
   obtain⟨v,hv,rfl⟩:=hc
   exact cZ (by decide) (br.sz v hv) YN⟩
  have hSu:=S7 (qd (r.map (· * lead y)) (D*lead y)) (qd (List.replicate k 0++aL y (lead r)) (D*lead y)) _
   (HP MW brl zD2 (by show U+s'≤137438953472;omega) (by omega)) (HP MW bw zD2 (by show U+s'≤137438953472;omega) (by omega)) (YX MW _) (HP MW bw.fC zD2 (by show U+s'≤137438953472;omega) (by omega))
  rw [YW MW,HO hD hl,←ha]at hSu
  have er:iP (r.map (· * lead y)) (fC (List.replicate k 0++aL y (lead r)))=rC y (lead y) (lead r) k r:=Cn.ext (Cn.iP _ _) (Cn.dJ _ _) fun t=>by
   rw [pH,dH,z8,c8,l9,b7,rC,fS,b7,cK,kX,List.length_replicate];grind
  have br2:Bd 2 (U+d) N (rC y (lead y) (lead r) k r):=by
   rw [←er]
   exact(Bd.iP (by decide) brl bw.fC).mono (by omega) (by omega)
  rw [er]at hSu
  have ew:qd (List.replicate k 0++aL y (lead r)) (D*lead y)=List.replicate k 0++qd (aL y (lead r)) (D*lead y):=by
   simp only [qd,List.map_append,List.map_replicate,qQ MW]
  rw [ew]at hSu
  have lb:(qd (aL y (lead r)) (D*lead y)).length≤N:=by have:=bsc.len;simpa using this
  have SR:(qd Q D).set k (dA (lead r) (D*lead y))=qd ((Q.map (· * lead y)).set k (lead r)) (D*lead y):=by
   rw [←HO hD hl Q,qd,qd,List.map_set]
  have YK:(qd Q D).length=i:=by simpa using hQ
  refine W.skip ?_
  refine W.block ?_
  generalize hz:qd Q D=z at *
  generalize qd (aL y (lead r)) (D*lead y)=b at *
  generalize hcc:dA (lead r) (D*lead y)=c at *
  generalize VG:dA (lead r) D=p at *
  generalize hlq:(lead y:Rat)=lq at *
  generalize ha2:qd (rC y (lead y) (lead r) k r) (D*lead y)=a2 at *
  refine W.sr ?_
  simp (disch:=omega) [gw,la,lyq,hkI]
  refine bF [0,1,6,8] ?_
  have auf:0<r.length:=by omega
  have e1:((r.length:Int)-1).toNat=r.length-1:=by omega
  have e2:((y.length:Int)-1).toNat=y.length-1:=by omega
  refine W.sd ?_
  simp (disch:=omega) [gw,la,lyq,e1,e2,hp,DY]
  refine cM akL ?_
  rw [if_pos (by kernel_rfl)]
  simp (disch:=omega) [gw]
  refine bF [0,1,6,8,9] ?_
  have hkl:k<z.length:=by omega
  refine W.sr ?_
  simp (disch:=omega) [gw,hr,hkl]
  refine bF [0,1,6,8,9] ?_
  refine aB [0,1,6,8,9,10] ?_
  refine aQ [0,1,6,8,9,10,60,61] ?_
  refine W.block ?_
  refine W.a9 (fun m σ=>∃(j v9 v10 v6:Nat) (els:List (List PV)) (rows:Pm.Rows) (clk:Nat),σ=⟨fa [(0,PP a),(1,PP yq),(6, .own 19 v6 0 i),(9, .ptr 9 v9 0 0),(10, .own 58 v10 0 k),(60, .int .i64 k),(61, .int .i64 j)],rows,clk⟩ ∧
   rows 19=some ⟨v6,31,4,emap re (z.set k c)⟩∧rows 9=some ⟨v9,31,4,[[aX aO (a5 DD c.num.natAbs), .bool (decide (c.num<0)),aX aO (a5 DD c.den), .bool false]]⟩ ∧
   rows 58=some ⟨v10,31,4,els⟩∧els.length=k∧(∀e∈els,e.length=4)∧els.take j=emap ri (List.replicate j 0)∧m=k-j∧j≤k) k ?_ ?_
  ·exact⟨_,aC _ [0,1,6,9,10,60,61],0,_,_,_,List.replicate k [.nil, .bool false, .nil, .bool false],_,_,rfl,by simp [hr],by simp,by simp,by simp,by simp,by simp [emap],by omega,by omega⟩
  clear hr rows clk v6
  rintro m _ ⟨j,v9,v10,v6,els,rows,clk,rfl,hr,Y4,tF,mN,DP,vM,hm,hj⟩
  have RZ:a8 4 els=True:=by simp only [a8,eq_iff_iff,iff_true];exact DP
  refine cH [0,1,6,9,10,60,61,62] ?_
  refine bO ?_ ?_<;>intro h
  ·have h:j<k:=by simp at h;omega
   refine iS ?_
   refine aB [0,1,6,9,10,11,60,61] ?_
   refine W.cA (fun K hK=>?_)
   simp (disch:=omega) [gw]
   refine aD n8 ?_
   have sI:j<els.length:=by omega
   have hE:p6 els j 4=True:=by
    simp only [eq_iff_iff,iff_true]
    exact⟨els[j],List.getElem?_eq_getElem sI,by rw [DP _ (List.getElem_mem sI)];omega⟩
   have hS:fO els j 0 [aX aO (a5 DD 0), .bool false,aX aO (a5 DD 1), .bool false]=els.set j (ri 0):=by
    have h4:=DP _ (List.getElem_mem sI)
    rw [fO,List.getElem?_eq_getElem sI]
    simp [List.drop_of_length_le,h4]
   simp (disch:=omega) [gw,tF,hE,hS]
   refine W.lw [0,1,6,9,10,60,61] hK ?_;clear hK K;simp
   refine W.cA (fun K hK=>?_);simp (disch:=omega) [gw]
   refine hK _ ⟨k-(j+1),_,aC _ [0,1,6,9,10,60,61],by omega,j+1,v9,v10,v6,els.set j (ri 0),_,_,rfl,by simp [hr],by simp [Y4],by simp,by simpa using mN,fun e he=>?_,?_,by omega,by omega⟩
   ·rcases List.mem_or_eq_of_mem_set he with h1 | h1
    ·exact DP e h1
    ·rw [h1];rfl
   ·rw [jC vM (by omega),List.replicate_succ']
    simp [emap]
  have h:j=k:=by simp at h;omega
  subst h
  have o9:els=emap re (List.replicate j 0):=by
   have h1:emap ri (List.replicate j 0)=emap re (List.replicate j 0):=by simp [emap,fJ]
   rw [←h1,←vM,bA mN]
  subst o9
  clear vM DP mN RZ
  refine eH ?_
  refine W.CS (fun K hK=>?_)
  rw [if_pos rfl,eL]
  have uH:((List.take r.length a).drop 0)=a:=by rw [List.drop_zero,List.take_of_length_le (by omega)]
  simp (disch:=omega) [gw,la,lyq,Y4,zM,uH]
  refine aD hSc ?_
  have K5:List.take (j+b.length) (List.replicate j 0++b)=List.replicate j 0++b:=List.take_of_length_le (by simp)
  simp (disch:=omega) [gw,tF,K5]
  refine cM hSu ?_
  subst ha2
  have dB:rows 19=some ⟨v6,31,4,emap re (qd ((Q.map (· * lead y)).set j (lead r)) (D*lead y))⟩:=by rw [hr,SR]
  refine hK _ ⟨n,_,aC _ [0,1,6],by omega,(Q.map (· * lead y)).set j (lead r),rC y (lead y) (lead r) j r,D*lead y,v6,_,_,rfl,by simp [dB],by simpa using hQ,UZ,by omega,by omega,hd,?_,?_⟩
  ·rw [hT];exact br2
  ·rw [hT];exact Nat.le_trans zD2 (by omega)
 ·have h:r.length<y.length:=by simp at h;omega
  rw [YZ h]at hd
  subst hd
  refine eH ?_
  have hcq:=qL (qd Q D) (by simp;omega)
  rw [qR hD]at hcq
  have YK:(qd Q D).length=i:=by simpa using hQ
  have pJ:=bA YK
  rw [←ha]
  generalize qd Q D=z at *
  generalize qd (aG Q) D=z2 at *
  refine W.sr ?_
  simp (disch:=omega) [gw,hr,pJ]
  refine c7 [4,5] hcq ?_
  exact cV
theorem EF{x y:List Int}(cy:Cn y)(hy:0<y.length):∀(j:Nat),j≤x.length→S1 y j (List.replicate j 0++x.drop j) (bK (aG (x.take j)) y)=some (x,[])
 | 0,_=>by
  have:bK (aG (x.take 0)) y = []:=Cn.ext (Cn.bK _ _) Cn.nil fun t=>by rw [cK,cD];simp [V]
  rw [S1,this];rfl
 | j+1,h=>by
  have ih:=EF (x:=x) cy hy j (by omega)
  have hly:=dR cy hy
  have ht:=aU (l:=x) (i:=j) (by omega)
  have hdr:x.drop j=nth x j::x.drop (j+1):=by
   rw [List.drop_eq_getElem_cons (l:=x) (i:=j) (by omega),show nth x j=x[j]from dP (by omega)]
  rw [S1]
  by_cases hv:nth x j=0
  ·have hw:aG (x.take (j+1))=aG (x.take j):=by rw [ht,hv,gT]
   rw [hw]
   have h1:=u7 (x:=aG (x.take j)) hy
   have h2:=bN (x.take j)
   rw [List.length_take]at h2
   rw [if_pos (by omega),←ih]
   rw [hdr,hv,List.replicate_succ',List.append_assoc];rfl
  ·have hw:aG (x.take (j+1))=x.take j ++ [nth x j]:=by rw [ht];exact fA hv _
   have cw:Cn (x.take j ++ [nth x j]):=fA hv _
   have hwl:(x.take j ++ [nth x j]).length=j+1:=by simp;omega
   have hlw:lead (x.take j ++ [nth x j])=nth x j:=by
    rw [lead,hwl,Nat.add_sub_cancel,dP (by omega)]
    have:(x.take j).length=j:=by simp;omega
    simp [List.getElem_append_right,this]
   rw [hw]
   have hl:=gW cw cy (by omega) hy
   have hd:=rK cw cy (by omega) hy
   rw [hwl]at hl
   rw [hlw]at hd
   rw [if_neg (by omega),hd,if_pos (Int.mul_emod_left _ _),Int.mul_ediv_cancel _ hly]
   have e1:dJ (bK (x.take j ++ [nth x j]) y) (bK (nE j (nth x j)) y)=bK (aG (x.take j)) y:=Cn.ext (Cn.dJ _ _) (Cn.bK _ _) fun t=>by
    rw [fS,cK,cK,cK,cD,c8,kD,kX,show(x.take j).length=j by simp;omega]
    grind
   have e2:(List.replicate (j+1) 0++x.drop (j+1)).set j (nth x j)=List.replicate j 0++x.drop j:=by
    rw [hdr,List.replicate_succ',List.append_assoc,List.set_append_right _ _ (by simp)]
    simp
   rw [e1,e2]
   exact ih
theorem HT{x y:List Int}(cx:Cn x)(cy:Cn y)(hy:0<y.length):exact (bK x y) y=some x:=by
 have hk:gM (bK x y) y=x.length:=by
  rcases Nat.eq_zero_or_pos x.length with h | h
  ·have:x = []:=List.eq_nil_of_length_eq_zero h
   have e:bK x y = []:=Cn.ext (Cn.bK _ _) Cn.nil fun t=>by rw [cK,this];simp [V]
   rw [e,this];simp [gM];omega
  ·have:=gW cx cy h hy
   unfold gM;omega
 have h1:=EF (x:=x) cy hy x.length (Nat.le_refl _)
 rw [List.take_length,show aG x=x from cx,List.drop_length,List.append_nil]at h1
 rw [exact,hk,h1,exF,show aG x=x from cx]
theorem AY{y h:List Int}(cy:Cn y)(hy:0<y.length)(e:∀t,V t y*V t h=0):aG h = []:=by
 by_cases hh:aG h = []
 ·exact hh
 ·exfalso
  have h1:bK y (aG h) = []:=Cn.ext (Cn.bK _ _) Cn.nil fun t=>by rw [cK,cD,e];rfl
  have h2:=gW cy (Cn.cut h) hy (List.length_pos_iff.2 hh)
  rw [h1]at h2
  have:=List.length_pos_iff.2 hh
  simp at h2;omega
theorem EG{a b:List Int}(h:aG (dJ a b) = [])(t:Int):V t a=V t b:=by
 have h1:=fS (t:=t) a b
 rw [←cD,h]at h1
 have:V t ([]:List Int)=0:=rfl
 omega
theorem NA{D:Int}(h:D≠0)(x:List Int):qd (x.map (· * D)) D=qs x:=by
 have:=HO (D:=1) (l:=D) (by decide) h x
 rw [Int.one_mul,AS]at this
 exact this
theorem TH{x y q:List Int}(cx:Cn x)(cy:Cn y)(hy:0<y.length)(cq:Cn q)(h:∀t,V t x=V t q*V t y):qd (aG (S6 x y).Q) (S6 x y).D=qs q∧(S6 x y).r = []:=by
 obtain⟨hI,hr⟩:=Y1 cx cy hy
 generalize S6 x y=σ at *
 have hv:=hI.v
 have e:∀t,V t σ.r=V t y*V t (dJ (q.map (· * σ.D)) σ.Q):=fun t=>by
  have h1:=hv t
  rw [h]at h1
  rw [fS,dH]
  grind
 have h1:=yE hI.c cy hy e hr
 have h2:aG (dJ (q.map (· * σ.D)) σ.Q) = []:=AY cy hy fun t=>by rw [←e,h1];rfl
 have e2:aG σ.Q=q.map (· * σ.D):=Cn.ext (Cn.cut _) (i0 cq hI.d) fun t=>by rw [cD];exact(EG h2 t).symm
 rw [e2]
 exact⟨NA hI.d q,h1⟩
end Go.Proofs.YtiobceocpabjdaaGreat
namespace Pm
structure ZX where
 l:List Int
 c:Cn l
namespace ZX
theorem ext{x y:ZX}(h:∀t,V t x.l=V t y.l):x=y:=by
 obtain⟨x,hx⟩:=x
 obtain⟨y,hy⟩:=y
 have:=Cn.ext hx hy h
 subst this
 rfl
def of(x:List Int):ZX:=⟨aG x,Cn.cut x⟩
def K(c:Int):ZX:=of [c]
instance:Zero ZX:=⟨⟨[],Cn.nil⟩⟩
instance:One ZX:=⟨K 1⟩
instance:Add ZX:=⟨fun x y=>⟨iP x.l y.l,Cn.iP _ _⟩⟩
instance:Mul ZX:=⟨fun x y=>⟨bK x.l y.l,Cn.bK _ _⟩⟩
instance:Neg ZX:=⟨fun x=>⟨fC x.l,Cn.fC _⟩⟩
instance:Sub ZX:=⟨fun x y=>⟨dJ x.l y.l,Cn.dJ _ _⟩⟩
def pow(x:ZX):Nat→ZX
 | 0=>1
 | n+1=>pow x n*x
instance:HPow ZX Nat ZX:=⟨pow⟩
instance:NatCast ZX:=⟨fun n=>K n⟩
instance (n:Nat):OfNat ZX n:=⟨K n⟩
instance:IntCast ZX:=⟨fun n=>K n⟩
instance:SMul Nat ZX:=⟨fun n x=>K n*x⟩
instance:SMul Int ZX:=⟨fun n x=>K n*x⟩
variable {t:Int}
theorem aeO(x:List Int):V t (of x).l=V t x:=cD x
theorem wB(c:Int):V t (K c).l=c:=by rw [K,aeO];simp [V]
theorem pQ:V t (0:ZX).l=0:=wB 0
theorem yU:V t (1:ZX).l=1:=wB 1
theorem j4(x y:ZX):V t (x+y).l=V t x.l+V t y.l:=pH _ _
theorem dK(x y:ZX):V t (x*y).l=V t x.l*V t y.l:=cK _ _
theorem J2(x:ZX):V t (-x).l = -V t x.l:=z8 _
theorem akM(x y:ZX):V t (x-y).l=V t x.l-V t y.l:=fS _ _
theorem J3(x:ZX):∀n:Nat,V t (x^n).l=V t x.l^n
 | 0=>by show V t (1:ZX).l=_;rw [yU,Int.pow_zero]
 | n+1=>by show V t ((x^n)*x).l=_;rw [dK,J3 x n,Int.pow_succ]
theorem J4(n:Nat):V t (OfNat.ofNat n:ZX).l=n:=wB n
theorem abB(n:Int):V t (n:ZX).l=n:=wB n
theorem J5(n:Int)(x:ZX):V t (n • x).l=n*V t x.l:=by show V t (K n*x).l=_;rw [dK,wB]
instance:Lean.Grind.CommRing ZX where
 add_zero x:=ext fun t=>by rw [j4,pQ];omega
 add_comm x y:=ext fun t=>by rw [j4,j4];omega
 add_assoc x y z:=ext fun t=>by simp only [j4];omega
 mul_assoc x y z:=ext fun t=>by simp only [dK];grind
 mul_one x:=ext fun t=>by rw [dK,yU];omega
 one_mul x:=ext fun t=>by rw [dK,yU];omega
 left_distrib x y z:=ext fun t=>by simp only [dK,j4];grind
 right_distrib x y z:=ext fun t=>by simp only [dK,j4];grind
 zero_mul x:=ext fun t=>by rw [dK,pQ];omega
 mul_zero x:=ext fun t=>by rw [dK,pQ];omega
 pow_zero x:=ext fun t=>by rw [J3,yU,Int.pow_zero]
 pow_succ x n:=ext fun t=>by rw [dK,J3,J3,Int.pow_succ]
 ofNat_succ n:=ext fun t=>by rw [j4,J4,J4,yU];omega
 ofNat_eq_natCast n:=rfl
 nsmul_eq_natCast_mul n x:=rfl
 neg_add_cancel x:=ext fun t=>by rw [j4,J2,pQ];omega
 sub_eq_add_neg x y:=ext fun t=>by rw [akM,j4,J2];omega
 neg_zsmul n x:=ext fun t=>by rw [J5,J2,J5];grind
 zsmul_natCast_eq_nsmul n x:=rfl
 intCast_ofNat n:=rfl
 intCast_neg n:=ext fun t=>by rw [abB,J2,abB]
 mul_comm x y:=ext fun t=>by rw [dK,dK,Int.mul_comm]
def N(x:ZX):Nat:=x.l.length
theorem aK{x:ZX}:x≠0↔0<N x:=by
 constructor
 ·intro h
  rcases Nat.eq_zero_or_pos (N x)with h1 | h1
  ·exfalso
   apply h
   have:x.l = []:=List.eq_nil_of_length_eq_zero h1
   exact ext fun t=>by rw [this,pQ];rfl
  ·exact h1
 ·rintro h rfl
  have:N (0:ZX)=0:=by decide
  omega
theorem mB{x y:ZX}(hx:x≠0)(hy:y≠0):N (x*y)=N x+N y-1:=gW x.c y.c (aK.1 hx) (aK.1 hy)
theorem rP{x y:ZX}(hx:x≠0)(hy:y≠0):x*y≠0:=by
 rw [aK,mB hx hy]
 have:=aK.1 hx
 have:=aK.1 hy
 omega
theorem nS{x y:ZX}(h:x*y=0):x=0∨y=0:=by
 by_cases hx:x=0
 ·exact .inl hx
 ·by_cases hy:y=0
  ·exact .inr hy
  ·exact absurd h (rP hx hy)
theorem NB(x y:ZX):x*y=y*x:=by grind
theorem cancel{x y z:ZX}(hz:z≠0)(h:z*x=z*y):x=y:=by
 have h1:z*(x-y)=0:=by grind
 rcases nS h1 with h2 | h2
 ·exact absurd h2 hz
 ·grind
theorem tG{c:Int}(h:c≠0):K c≠0:=fun e=>h (by
 have:=wB (t:=0) c
 rw [e,pQ]at this;omega)
theorem N_K{c:Int}(h:c≠0):N (K c)=1:=by
 show(aG [c]).length=1
 rw [show aG [c] = [c]from fA h []];rfl
theorem nT(c d:Int):K c*K d=K (c*d):=ext fun t=>by rw [dK,wB,wB,wB]
theorem EH{x:ZX}(h:N x=1):∃c,c≠0∧x=K c:=by
 obtain⟨l,hl⟩:=x
 match l,hl,h with
 | [c],hl,_ =>
  have hc:c≠0:=by
   have:=dR hl (by simp)
   simpa [lead,n5]using this
  exact⟨c,hc,ext fun t=>by rw [wB];simp [V]⟩
theorem jS{c:Int}{x y q:ZX}(hc:c≠0)(hx:x≠0)(h:K c*x=q*y):q≠0∧y≠0:=by
 have h1:=rP (tG hc) hx
 rw [h]at h1
 constructor
 ·rintro rfl;apply h1;grind
 ·rintro rfl;apply h1;grind
theorem TJ:(1:ZX)≠0:=tG (by decide)
theorem akN:N (1:ZX)=1:=N_K (by decide)
def dv(y x:ZX):Prop:=∃c:Int,c≠0 ∧ ∃q,K c*x=q*y
theorem dv.refl(x:ZX):dv x x:=⟨1,by decide,K 1,rfl⟩
theorem dv.zero(x:ZX):dv x 0:=⟨1,by decide,0,by grind⟩
theorem dv.trans{x y z:ZX}(h1:dv x y)(h2:dv y z):dv x z:=by
 obtain⟨c,hc,q,h1⟩:=h1
 obtain⟨d,hd,r,h2⟩:=h2
 exact⟨c*d,Int.mul_ne_zero hc hd,q*r,by rw [←nT];grind⟩
theorem dv.mul_right{x y:ZX}(h:dv x y)(z:ZX):dv x (y*z):=by
 obtain⟨c,hc,q,h⟩:=h
 exact⟨c,hc,q*z,by grind⟩
theorem dv.mul_left{x y:ZX}(h:dv x y)(z:ZX):dv x (z*y):=by
 obtain⟨c,hc,q,h⟩:=h
 exact⟨c,hc,q*z,by grind⟩
theorem dv.mul{x y z w:ZX}(h1:dv x y)(h2:dv z w):dv (x*z) (y*w):=by
 obtain⟨c,hc,q,h1⟩:=h1
 obtain⟨d,hd,r,h2⟩:=h2
 exact⟨c*d,Int.mul_ne_zero hc hd,q*r,by rw [←nT];grind⟩
theorem dv.add{x y z:ZX}(h1:dv x y)(h2:dv x z):dv x (y+z):=by
 obtain⟨c,hc,q,h1⟩:=h1
 obtain⟨d,hd,r,h2⟩:=h2
 exact⟨c*d,Int.mul_ne_zero hc hd,K d*q+K c*r,by rw [←nT];grind⟩
theorem dv.HU{x y:ZX}{c:Int}(hc:c≠0)(h:dv x (K c*y)):dv x y:=by
 obtain⟨d,hd,q,h⟩:=h
 exact⟨d*c,Int.mul_ne_zero hd hc,q,by rw [←nT];grind⟩
theorem dv.AZ{x y:ZX}(h:dv x y)(hy:y≠0):N x≤N y:=by
 obtain⟨c,hc,q,h⟩:=h
 obtain⟨h1,h2⟩:=jS hc hy h
 have h3:N (K c*y)=N y:=by rw [mB (tG hc) hy,N_K hc];have:=aK.1 hy;omega
 rw [h,mB h1 h2]at h3
 have:=aK.1 h1
 omega
theorem dv.ne{x y:ZX}(h:dv x y)(hy:y≠0):x≠0:=by
 obtain⟨c,hc,q,h⟩:=h
 exact(jS hc hy h).2
theorem tS{x:ZX}(h:dv 0 x):x=0:=by
 obtain⟨c,hc,q,h⟩:=h
 have h2:K c*x=0:=by grind
 exact(nS h2).resolve_left (tG hc)
theorem akO{c:Int}(hc:c≠0)(x:ZX):dv (K c) x:=⟨c,hc,x,by grind⟩
theorem Y5{x y:ZX}(h:dv x y)(hy:y≠0)(hN:N x=N y):dv y x:=by
 obtain⟨c,hc,q,h⟩:=h
 obtain⟨h1,h2⟩:=jS hc hy h
 have h3:N (K c*y)=N y:=by rw [mB (tG hc) hy,N_K hc];have:=aK.1 hy;omega
 rw [h,mB h1 h2]at h3
 have h4:=aK.1 h1
 have h5:=aK.1 h2
 obtain⟨d,hd,rfl⟩:=EH (x:=q) (by omega)
 exact⟨d,hd,K c,by rw [h]⟩
theorem aeP(a:ZX){b:ZX}(hb:b≠0):∃c:Int,c≠0 ∧ ∃q r,K c*a=q*b+r∧N r<N b:=by
 have h0:=aK.1 hb
 obtain⟨c1,c2⟩:=u6 (b:=b.l) a.c
 refine⟨lead b.l^gM a.l b.l,Int.pow_ne_zero (dR b.c h0),⟨_,c1⟩,⟨_,c2⟩,ext fun t=>?_,?_⟩
 ·rw [dK,wB,j4,dK]
  exact(RL t a.l b.l).symm
 ·have:=AA (a:=a.l) h0
  show(sG a.l b.l).2.length<b.l.length
  have:0<b.l.length:=h0
  omega
structure oJ(g a b:ZX):Prop where
 l:dv g a
 r:dv g b
 uv:∃c:Int,c≠0 ∧ ∃u v,K c*g=u*a+v*b
theorem oJ.least{g a b d:ZX}(h:oJ g a b)(ha:dv d a)(hb:dv d b):dv d g:=by
 obtain⟨c,hc,u,v,e⟩:=h.uv
 refine dv.HU hc ?_
 rw [e]
 exact(ha.mul_left u).add (hb.mul_left v)
theorem oJ.ne{g a b:ZX}(h:oJ g a b)(ha:a≠0∨b≠0):g≠0:=by
 rintro rfl
 rcases ha with h1 | h1
 ·exact h1 (tS h.l)
 ·exact h1 (tS h.r)
theorem oJ.zero(a:ZX):oJ a a 0:=⟨dv.refl a,dv.zero a,1,by decide,1,0,by show(1:ZX)*a=_;grind⟩
theorem oJ.step{g a b q r:ZX}{c:Int}(hc:c≠0)(e:K c*a=q*b+r)(h:oJ g b r):oJ g a b:=by
 obtain⟨d,hd,u,v,e2⟩:=h.uv
 refine⟨dv.HU hc ?_,h.l,d,hd,v*K c,u-v*q,by grind⟩
 rw [e]
 exact(h.l.mul_left q).add h.r
theorem j5:∀(n:Nat) (a b:ZX),N b≤n → ∃g,oJ g a b
 | 0,a,b,h=>by
  have:b=0:=Classical.byContradiction fun hb=>by have:=aK.1 hb;omega
  subst this
  exact⟨a,oJ.zero a⟩
 | n+1,a,b,h=>by
  by_cases hb:b=0
  ·subst hb;exact⟨a,oJ.zero a⟩
  ·obtain⟨c,hc,q,r,e,hr⟩:=aeP a hb
   obtain⟨g,hg⟩:=j5 n b r (by omega)
   exact⟨g,hg.step hc e⟩
structure o0(p:ZX):Prop where
 deg:2≤N p
 irr:∀d,dv d p→N d=1∨N d=N p
theorem o0.ne{p:ZX}(h:o0 p):p≠0:=aK.2 (by have:=h.deg;omega)
theorem o0.abC{p a b:ZX}(hp:o0 p)(h:dv p (a*b)):dv p a∨dv p b:=by
 obtain⟨g,hg⟩:=j5 _ p a (Nat.le_refl _)
 rcases hp.irr g hg.l with h1 | h1
 ·right
  obtain⟨k,hk,rfl⟩:=EH h1
  obtain⟨c,hc,u,v,e⟩:=hg.uv
  refine dv.HU (c:=c*k) (Int.mul_ne_zero hc hk) ?_
  have e2:K (c*k)*b=(u*b)*p+v*(a*b):=by rw [←nT];grind
  rw [e2]
  exact((dv.refl p).mul_left _).add (h.mul_left v)
 ·left
  exact(Y5 hg.l hp.ne h1).trans hg.r
theorem wC:∀(n:Nat) (a:ZX),N a≤n→2≤N a → ∃p,o0 p∧dv p a
 | 0,a,h,h2=>by omega
 | n+1,a,h,h2=>by
  by_cases hi:∃d,dv d a∧N d≠1∧N d≠N a
  ·obtain⟨d,hd,h3,h4⟩:=hi
   have h5:=hd.AZ (aK.2 (by omega))
   have h6:=aK.1 (hd.ne (aK.2 (by omega)))
   obtain⟨p,hp,hpd⟩:=wC n d (by omega) (by omega)
   exact⟨p,hp,hpd.trans hd⟩
  ·refine⟨a,⟨h2,fun d hd=>?_⟩,dv.refl a⟩
   by_cases h3:N d=1
   ·exact .inl h3
   ·by_cases h4:N d=N a
    ·exact .inr h4
    ·exact absurd ⟨d,hd,h3,h4⟩ hi
theorem pow_succ'(p:ZX)(k:Nat):p^(k+1)=p^k*p:=rfl
theorem jW(p:ZX):p^0=1:=rfl
theorem pow_add'(p:ZX)(j:Nat):∀k,p^(j+k)=p^j*p^k
 | 0=>by rw [Nat.add_zero,jW];grind
 | k+1=>by rw [←Nat.add_assoc,pow_succ',pow_succ',pow_add' p j k];grind
theorem A1{p:ZX}(hp:p≠0):∀k:Nat,p^k≠0
 | 0=>TJ
 | k+1=>rP (A1 hp k) hp
theorem abD{p:ZX}(hp:o0 p):∀k:Nat,k<N (p^k)
 | 0=>by rw [jW,akN];omega
 | k+1=>by
  rw [pow_succ',mB (A1 hp.ne k) hp.ne]
  have:=abD hp k
  have:=hp.deg
  omega
theorem TK{p:ZX}{j k:Nat}(h:j≤k):dv (p^j) (p^k):=by
 obtain⟨d,rfl⟩:=Nat.exists_eq_add_of_le h
 rw [pow_add']
 exact(dv.refl _).mul_right _
theorem NC{p a:ZX}(hp:o0 p)(ha:a≠0):∃k,dv (p^k) a∧¬dv (p^(k+1)) a:=by
 have key:∀n,(∃k,k≤n∧dv (p^k) a∧¬dv (p^(k+1)) a)∨dv (p^(n+1)) a:=by
  intro n
  induction n with
  | zero =>
   by_cases h:dv (p^1) a
   ·exact .inr h
   ·exact .inl ⟨0,Nat.le_refl _,akO (by decide) a,h⟩
  | succ n ih =>
   rcases ih with ⟨k,h1,h2⟩ | ih
   ·exact .inl ⟨k,by omega,h2⟩
   ·by_cases h:dv (p^(n+2)) a
    ·exact .inr h
    ·exact .inl ⟨n+1,Nat.le_refl _,ih,h⟩
 rcases key (N a)with ⟨k,_,h⟩ | h
 ·exact⟨k,h⟩
 ·have h1:=h.AZ ha
  have h2:=abD hp (N a+1)
  omega
open Classical in
noncomputable def mu(p a:ZX):Nat:=if h:∃k,dv (p^k) a∧¬dv (p^(k+1)) a then h.choose else 0
theorem J6{p a:ZX}(hp:o0 p)(ha:a≠0):dv (p^mu p a) a∧¬dv (p^(mu p a+1)) a:=by
 have h:=NC hp ha
 unfold mu
 rw [dif_pos h]
 exact h.choose_spec
theorem qT{p a:ZX}(hp:o0 p)(ha:a≠0){k:Nat}:k≤mu p a↔dv (p^k) a:=by
 obtain⟨h1,h2⟩:=J6 hp ha
 constructor
 ·intro h;exact(TK h).trans h1
 ·intro h
  rcases Nat.lt_or_ge (mu p a) k with h3 | h3
  ·exact absurd ((TK h3).trans h) h2
  ·exact h3
theorem wD{p a:ZX}(hp:o0 p)(ha:a≠0):∃c:Int,c≠0 ∧ ∃b,b≠0∧K c*a=b*p^mu p a∧¬dv p b:=by
 obtain⟨⟨c,hc,b,e⟩,h2⟩:=J6 hp ha
 refine⟨c,hc,b,(jS hc ha e).1,e,fun h=>h2 (dv.HU hc ?_)⟩
 rw [e,pow_succ']
 have:=h.mul (dv.refl (p^mu p a))
 rw [show p^mu p a*p=p*p^mu p a by grind]
 exact this
theorem rQ{p a b:ZX}(hp:o0 p)(ha:a≠0){c:Int}(hc:c≠0){k:Nat}(e:K c*a=b*p^k)(h:¬dv p b):mu p a=k:=by
 have h1:k≤mu p a:=(qT hp ha).2 ⟨c,hc,b,e⟩
 rcases Nat.lt_or_ge k (mu p a)with h2 | h2
 ·exfalso
  obtain⟨d,hd,r,e2⟩:=(qT hp ha).1 h2
  apply h
  refine⟨d,hd,K c*r,ZX.cancel (A1 hp.ne k) ?_⟩
  rw [pow_succ']at e2
  grind
 ·omega
theorem A3{p a b:ZX}(hp:o0 p)(ha:a≠0)(hb:b≠0):mu p (a*b)=mu p a+mu p b:=by
 obtain⟨c,hc,x,_,e1,h1⟩:=wD hp ha
 obtain⟨d,hd,y,_,e2,h2⟩:=wD hp hb
 refine rQ (b:=x*y) hp (rP ha hb) (Int.mul_ne_zero hc hd) ?_ fun h=>?_
 ·rw [pow_add',←nT];grind
 ·rcases hp.abC h with h3 | h3
  ·exact h1 h3
  ·exact h2 h3
theorem akP{p:ZX}(hp:o0 p){c:Int}(hc:c≠0):mu p (K c)=0:=by
 refine rQ (b:=K c) (c:=1) hp (tG hc) (by decide) (by rw [jW];show(1:ZX)*K c=_;grind) fun h=>?_
 have:=h.AZ (tG hc)
 rw [N_K hc]at this
 have:=hp.deg
 omega
theorem J7{p a b:ZX}(hp:o0 p)(hb:b≠0)(h:dv a b):mu p a≤mu p b:=(qT hp hb).2 (((qT hp (h.ne hb)).1 (Nat.le_refl _)).trans h)
theorem abE{p a b q:ZX}(hp:o0 p){c:Int}(hc:c≠0)(ha:a≠0)(e:K c*a=q*b):mu p a=mu p q+mu p b:=by
 obtain⟨h1,h2⟩:=jS hc ha e
 rw [←A3 hp h1 h2,←e,A3 hp (tG hc) ha,akP hp hc];omega
theorem EI:∀(n:Nat) (a b:ZX),N a≤n→a≠0→b≠0→(∀p,o0 p→mu p a≤mu p b)→dv a b
 | 0,a,b,hn,ha,_,_=>by have:=aK.1 ha;omega
 | n+1,a,b,hn,ha,hb,h=>by
  rcases Nat.lt_or_ge (N a) 2 with h1 | h1
  ·obtain⟨c,hc,rfl⟩:=EH (x:=a) (by have:=aK.1 ha;omega)
   exact akO hc b
  ·obtain⟨p,hp,hpa⟩:=wC _ a (Nat.le_refl _) h1
   have h2:1≤mu p a:=(qT hp ha).2 (by rw [show p^1=p by rw [pow_succ',jW];grind];exact hpa)
   have h3:dv p b:=by
    have:=(qT hp hb).1 (Nat.le_trans h2 (h p hp))
    rwa [show p^1=p by rw [pow_succ',jW];grind]at this
   obtain⟨c,hc,a',ea⟩:=hpa
   obtain⟨d,hd,b',eb⟩:=h3
   obtain⟨E2,_⟩:=jS hc ha ea
   obtain⟨wS,_⟩:=jS hd hb eb
   have h4:N (K c*a)=N a:=by rw [mB (tG hc) ha,N_K hc];have:=aK.1 ha;omega
   have h5:dv a' b':=EI n a' b' (by
    rw [ea,mB E2 hp.ne]at h4
    have:=hp.deg
    omega) E2 wS fun r hr=>by
    have h6:=h r hr
    rw [abE hr hc ha ea,abE hr hd hb eb]at h6
    omega
   refine dv.HU hd ?_
   rw [eb]
   have h7:=h5.mul (dv.refl p)
   rw [←ea]at h7
   obtain⟨e,he,q,e3⟩:=h7
   exact⟨e,he,q*K c,by grind⟩
theorem oD{a b:ZX}(ha:a≠0)(hb:b≠0):dv a b ↔ ∀p,o0 p→mu p a≤mu p b:=⟨fun h p hp=>J7 hp hb h,EI _ a b (Nat.le_refl _) ha hb⟩
theorem oJ.mu{g a b p:ZX}(h:oJ g a b)(ha:a≠0)(hb:b≠0)(hp:o0 p):mu p g=min (ZX.mu p a) (ZX.mu p b):=by
 have hg:=h.ne (.inl ha)
 have h1:=J7 hp ha h.l
 have h2:=J7 hp hb h.r
 have h3:min (ZX.mu p a) (ZX.mu p b)≤ZX.mu p g:=(qT hp hg).2 (h.least ((qT hp ha).1 (Nat.min_le_left _ _)) ((qT hp hb).1 (Nat.min_le_right _ _)))
 omega
def wE(x:List Int):List Int:=(List.range (x.length-1)).map fun i=>nth x (i+1)*((i+1:Nat):Int)
def wF:Nat→List Int→List Int
 | _,[]=>[]
 | k,a::l=>a*(k:Int)::wF (k+1) l
def W(t:Int):List Int→Int
 | []=>0
 | _::l=>V t l+t*W t l
theorem J8:∀(l:List Int) (k:Nat),wF k l=(List.range l.length).map fun i=>nth l i*((k+i:Nat):Int)
 | [],k=>rfl
 | a::l,k=>by
  rw [wF,J8 l (k+1),List.length_cons,List.range_succ_eq_map,List.map_cons,List.map_map]
  congr 1
  refine List.map_congr_left fun i _=>?_
  simp only [Function.comp_apply,iZ]
  rw [show k+1+i=k+(i+1)by omega]
theorem ND(a:Int)(l:List Int):wE (a::l)=wF 1 l:=by
 rw [J8,wE,List.length_cons,Nat.add_sub_cancel]
 refine List.map_congr_left fun i _=>?_
 rw [iZ,show i+1=1+i by omega]
theorem sR(t:Int):∀(l:List Int) (k:Nat),V t (wF (k+1) l)=V t (wF k l)+V t l
 | [],k=>by simp [wF,V]
 | a::l,k=>by
  simp only [wF,V]
  rw [sR t l (k+1)]
  have:((k+1:Nat):Int)=(k:Int)+1:=by omega
  rw [this];grind
theorem wG(t:Int):∀l:List Int,V t (wF 1 l)=V t l+t*W t l
 | []=>by simp [wF,V,W]
 | b::m=>by
  rw [wF]
  simp only [V,W]
  rw [sR,wG t m]
  rw [show((1:Nat):Int)=1 from rfl]
  grind
theorem aeQ(t:Int):∀x:List Int,V t (wE x)=W t x
 | []=>rfl
 | a::l=>by rw [ND,wG];rfl
def dD(x:ZX):ZX:=of (wE x.l)
theorem J9(x:ZX):V t (dD x).l=W t x.l:=by rw [dD,aeO,aeQ]
theorem A4(t h:Int):∀x:List Int,∃R:Int,V (t+h) x=V t x+h*W t x+h*h*R
 | []=>⟨0,by simp [V,W]⟩
 | a::l=>by
  obtain⟨R,hR⟩:=A4 t h l
  refine⟨W t l+(t+h)*R,?_⟩
  simp only [V,W]
  rw [hR];grind
theorem TL{t A:Int}{z:List Int}(hA:∀h,∃R:Int,V (t+h) z=V t z+h*A+h*h*R):W t z=A:=by
 have key:∀h:Int,h≠0→h∣W t z-A:=fun h hh=>by
  obtain⟨R,hR⟩:=hA h
  obtain⟨S,hS⟩:=A4 t h z
  refine⟨R-S,Int.eq_of_mul_eq_mul_left hh ?_⟩
  grind
 have h1:=key (((W t z-A).natAbs:Int)+1) (by omega)
 have h2:=Int.natAbs_dvd_natAbs.2 h1
 rcases Nat.eq_zero_or_pos (W t z-A).natAbs with h3 | h3
 ·omega
 ·have:=Nat.le_of_dvd h3 h2
  omega
theorem tT(x y:ZX):dD (x*y)=dD x*y+x*dD y:=ext fun t=>by
 rw [J9,j4,dK,dK,J9,J9]
 refine TL fun h=>?_
 obtain⟨R,hR⟩:=A4 t h x.l
 obtain⟨S,hS⟩:=A4 t h y.l
 refine⟨V t x.l*S+R*V t y.l+W t x.l*W t y.l+h*(W t x.l*S+R*W t y.l)+h*h*R*S,?_⟩
 rw [dK,dK,hR,hS];grind
theorem abF(c:Int):dD (K c)=0:=ext fun t=>by
 rw [J9,pQ]
 refine TL fun h=>⟨0,?_⟩
 rw [wB,wB];grind
theorem TM(c:Int)(x:ZX):dD (K c*x)=K c*dD x:=by rw [tT,abF];grind
theorem KA:dD (1:ZX)=0:=abF 1
theorem KB(p:ZX):∀m:Nat,dD (p^(m+1))=K ((m+1:Nat):Int)*p^m*dD p
 | 0=>by
  rw [pow_succ',tT,jW,KA]
  show _=(1:ZX)*1*dD p
  grind
 | m+1=>by
  rw [pow_succ',tT,KB p m]
  have:K ((m+1+1:Nat):Int)=K ((m+1:Nat):Int)+1:=ext fun t=>by rw [j4,wB,wB,yU];omega
  rw [this,pow_succ'];grind
theorem nU(a:ZX):N (dD a)≤N a-1:=Nat.le_trans (bN _) (by simp [wE,N])
theorem TN{a:ZX}(h:2≤N a):dD a≠0:=by
 have h1:a.l.length=N a:=rfl
 have hl:=dR a.c (by omega)
 intro h0
 have h2:nth (dD a).l (N a-2)=nth a.l (N a-1)*((N a-1:Nat):Int):=by
  show nth (aG (wE a.l)) _=_
  rw [iK,wE,dP (by simp;omega)]
  simp only [List.getElem_map,List.getElem_range]
  rw [show N a-2+1=N a-1 by omega]
 rw [h0]at h2
 have h3:nth (0:ZX).l (N a-2)=0:=gL (by show(0:ZX).l.length≤_;exact Nat.zero_le _)
 rw [h3]at h2
 have h4:nth a.l (N a-1)=lead a.l:=by rw [lead,h1]
 rw [h4]at h2
 exact Int.mul_ne_zero hl (by omega) h2.symm
theorem o0.HV{p:ZX}(hp:o0 p):¬dv p (dD p):=fun h=>by
 have h1:=h.AZ (TN hp.deg)
 have h2:=nU p
 have:=hp.deg
 omega
theorem HW{p a:ZX}(hp:o0 p)(ha:a≠0){m:Nat}(h:mu p a=m+1):dD a≠0∧mu p (dD a)=m:=by
 obtain⟨c,hc,b,hb,e,hn⟩:=wD hp ha
 rw [h]at e
 have e2:K c*dD a=(dD b*p+K ((m+1:Nat):Int)*(b*dD p))*p^m:=by
  rw [←TM,e,tT,KB,pow_succ'];grind
 have hnd:¬dv p (dD b*p+K ((m+1:Nat):Int)*(b*dD p)):=fun h1=>by
  have h2:dv p (K ((m+1:Nat):Int)*(b*dD p)):=by
   have h3:=h1.add ((dv.refl p).mul_left (-dD b))
   rwa [show dD b*p+K ((m+1:Nat):Int)*(b*dD p) + -dD b*p=K ((m+1:Nat):Int)*(b*dD p)by grind]at h3
  have h4:=dv.HU (by omega) h2
  rcases hp.abC h4 with h5 | h5
  ·exact hn h5
  ·exact hp.HV h5
 have h6:dD a≠0:=fun h0=>by
  rw [h0]at e2
  have h7:(dD b*p+K ((m+1:Nat):Int)*(b*dD p))*p^m=0:=by rw [←e2];grind
  rcases nS h7 with h8 | h8
  ·rw [h8]at hnd;exact hnd (dv.zero p)
  ·exact A1 hp.ne m h8
 exact⟨h6,rQ hp h6 hc e2 hnd⟩
theorem oJ.HW{g a p:ZX}(h:oJ g a (dD a))(ha:a≠0)(hp:o0 p):ZX.mu p g=ZX.mu p a-1:=by
 rcases Nat.eq_zero_or_pos (ZX.mu p a)with h1 | h1
 ·have:=J7 hp ha h.l
  omega
 ·obtain⟨m,hm⟩:∃m,ZX.mu p a=m+1:=⟨ZX.mu p a-1,by omega⟩
  obtain⟨h2,h3⟩:=ZX.HW hp ha hm
  rw [h.mu ha h2 hp,h3,hm];omega
theorem TO{p:ZX}(hp:o0 p):mu p 1=0:=akP hp (by decide)
theorem oJ.akQ{g a b q r:ZX}{c k:Int}(hc:c≠0)(hk:k≠0)(e:K c*a=q*b+K k*r)(h:oJ g b r):oJ g a b:=by
 obtain⟨d,hd,u,v,e2⟩:=h.uv
 refine⟨dv.HU hc ?_,h.l,k*d,Int.mul_ne_zero hk hd,v*K c,K k*u-v*q,by rw [←nT];grind⟩
 rw [e]
 exact(h.l.mul_left q).add (h.r.mul_left _)
theorem oJ.assoc{g g' a b:ZX}(h:oJ g a b)(h':oJ g' a b):dv g g'∧dv g' g:=⟨h'.least h.l h.r,h.least h'.l h'.r⟩
theorem oJ.congr{g a b a' b':ZX}(h:oJ g a b)(h1:dv a a')(h2:dv a' a)(h3:dv b b')(h4:dv b' b):oJ g a' b':=by
 obtain⟨g',hg'⟩:=j5 _ a' b' (Nat.le_refl _)
 obtain⟨c,hc,u,v,e⟩:=hg'.uv
 have h5:dv g g':=hg'.least (h.l.trans h1) (h.r.trans h3)
 have h6:dv g' g:=h.least (hg'.l.trans h2) (hg'.r.trans h4)
 obtain⟨d,hd,w,e2⟩:=h6
 refine⟨h.l.trans h1,h.r.trans h3,c*d,Int.mul_ne_zero hc hd,w*u,w*v,by rw [←nT];grind⟩
end ZX
theorem EJ{H t:Nat}:∀ {x:List Int},(∀c∈x,c.natAbs≤H)→(V (t:Int) x).natAbs≤H*(1+t)^x.length
 | [],_=>by simp [V]
 | a::l,h=>by
  have h1:=EJ (t:=t) (x:=l) fun c hc=>h c (by simp [hc])
  have h2:=h a (by simp)
  simp only [V]
  have h3:(a+(t:Int)*V t l).natAbs≤a.natAbs+t*(V (t:Int) l).natAbs:=by
   have:=Int.natAbs_add_le a ((t:Int)*V t l)
   rwa [Int.natAbs_mul,Int.natAbs_natCast]at this
  have h4:t*(V (t:Int) l).natAbs≤t*(H*(1+t)^l.length):=Nat.mul_le_mul_left _ h1
  have h5:H*1≤H*(1+t)^l.length:=Nat.mul_le_mul_left _ (Nat.one_le_pow _ _ (by omega))
  rw [List.length_cons,Nat.pow_succ]
  have h6:H*((1+t)^l.length*(1+t))=H*(1+t)^l.length+t*(H*(1+t)^l.length):=by grind
  omega
def NF(s:Int):List Int→List Int
 | []=>[]
 | _::l=>V s l::NF s l
theorem abG(s t:Int):∀x:List Int,V t x=V s x+(t-s)*V t (NF s x)
 | []=>by simp [V,NF]
 | a::l=>by
  have:=abG s t l
  simp only [V,NF]
  have h2:t*V t l=t*(V s l+(t-s)*V t (NF s l)):=by rw [←this]
  grind
theorem EK(s:Int):∀x:List Int,x ≠ [] → ∃y,NF s x=y ++ [0]∧y.length=x.length-1
 | [],h=>absurd rfl h
 | [a],_=>⟨[],by simp [NF,V],rfl⟩
 | a::b::l,_=>by
  obtain⟨y,h1,h2⟩:=EK s (b::l) (by simp)
  refine⟨V s (b::l)::y,by rw [NF,h1];rfl,by simp at h2 ⊢;omega⟩
theorem wH{s:Nat}{M:Nat}:∀ {x:List Int},(V (s:Int) x).natAbs≤M→(∀c∈NF s x,c.natAbs≤M) → ∀c∈x,c.natAbs≤M*(1+s)
 | [],_,_,c,hc=>by cases hc
 | a::l,h0,h,c,hc=>by
  have h1:(V (s:Int) l).natAbs≤M:=h _ (by simp [NF])
  have h2:∀c∈NF s l,c.natAbs≤M:=fun c hc=>h c (by simp [NF,hc])
  rcases List.mem_cons.1 hc with rfl | hc
  ·simp only [V]at h0
   have h3:c.natAbs≤(c+(s:Int)*V s l).natAbs+s*(V (s:Int) l).natAbs:=by
    have h4:c=(c+(s:Int)*V s l)+(-((s:Int)*V s l)):=by omega
    have h5:=Int.natAbs_add_le (c+(s:Int)*V s l) (-((s:Int)*V s l))
    rw [←h4,Int.natAbs_neg,Int.natAbs_mul,Int.natAbs_natCast]at h5
    exact h5
   have h4:s*(V (s:Int) l).natAbs≤s*M:=Nat.mul_le_mul_left _ h1
   rw [Nat.mul_add,Nat.mul_one,Nat.mul_comm M s];omega
  ·exact wH h1 h2 c hc
theorem A5(K:Nat):∀(P:List Nat) (A:Nat) (x:List Int),P.Nodup→(∀p∈P,p≤K)→x.length≤P.length→(∀p∈P,(V (p:Int) x).natAbs≤A) → ∀c∈x,c.natAbs≤A*(2*(K+1))^P.length
 | [],A,x,_,_,hl,_,c,hc=>by
  have:x = []:=List.eq_nil_of_length_eq_zero (by simpa using hl)
  rw [this]at hc;cases hc
 | s::P,A,x,hd,hK,hl,hv,c,hc=>by
  have hx:x ≠ []:=fun h=>by rw [h]at hc;cases hc
  have h0:=hv s (List.mem_cons_self ..)
  obtain⟨hs,hd⟩:=List.nodup_cons.1 hd
  obtain⟨y,h1,h2⟩:=EK s x hx
  have hy:∀t:Int,V t (NF s x)=V t y:=fun t=>by rw [h1,c8];simp [V]
  have h3:∀p∈P,(V (p:Int) y).natAbs≤2*A:=fun p hp=>by
   have h4:=abG s (p:Int) x
   rw [hy]at h4
   have h5:=hv p (List.mem_cons_of_mem _ hp)
   have wV:p≠s:=fun h=>hs (h▸hp)
   have h6:(((p:Int)-s)*V (p:Int) y).natAbs≤2*A:=by
    have:((p:Int)-s)*V (p:Int) y=V (p:Int) x-V (s:Int) x:=by omega
    rw [this]
    omega
   rw [Int.natAbs_mul]at h6
   exact Nat.le_trans (Nat.le_mul_of_pos_left _ (by omega)) h6
  rw [List.length_cons]at hl ⊢
  have h4:=A5 K P (2*A) y hd (fun p hp=>hK p (List.mem_cons_of_mem _ hp)) (by omega) h3
  have hP:1≤(2*(K+1))^P.length:=Nat.one_le_pow _ _ (by omega)
  have h5:=wH (s:=s) (M:=2*A*(2*(K+1))^P.length) (x:=x) (by
   have:A*1≤2*A*(2*(K+1))^P.length:=Nat.mul_le_mul (by omega) hP
   omega) (fun d hd=>by
   rw [h1]at hd
   rcases List.mem_append.1 hd with hd | hd
   ·exact h4 d hd
   ·simp at hd;subst hd;simp) c hc
  refine Nat.le_trans h5 ?_
  rw [Nat.pow_succ]
  have h6:A*((2*(K+1))^P.length*(2*(K+1)))=(2*A*(2*(K+1))^P.length)*(K+1):=by grind
  rw [h6]
  exact Nat.mul_le_mul_left _ (by have:=hK s (List.mem_cons_self ..);omega)
theorem wI{α:Type}(p:α→Bool):∀l:List α,(l.filter p).length+(l.filter fun x => !p x).length=l.length
 | []=>rfl
 | a::l=>by
  have:=wI p l
  cases h:p a<;>simp [h]<;>omega
theorem Y6{x:List Int}(hx:aG x ≠ []){n:Nat}(hl:x.length≤n):∃P:List Nat,P.Nodup∧(∀p∈P,p≤2*n-1)∧P.length=n ∧ ∀p∈P,V (p:Int) x≠0:=by
 have h1:=wI (fun p:Nat=>decide (V (p:Int) x=0)) (List.range (2*n))
 have h2:((List.range (2*n)).filter fun p:Nat=>decide (V (p:Int) x=0)).length<n:=Nat.not_le.1 fun h=>hx (by
  have h3:=A5 (2*n) ((List.range (2*n)).filter fun p:Nat=>decide (V (p:Int) x=0)) 0 x (List.nodup_range.filter _) (fun p hp=>by have:=List.mem_range.1 (List.mem_filter.1 hp).1;omega) (by omega) (fun p hp=>by have:=of_decide_eq_true (List.mem_filter.1 hp).2;rw [this];decide)
  have h4:∀l:List Int,(∀c∈l,c.natAbs≤0*(2*(2*n+1))^((List.range (2*n)).filter fun p:Nat=>decide (V (p:Int) x=0)).length)→aG l = []:=fun l=>by
   induction l with
   | nil=>intro _;rfl
   | cons a l ih =>
    intro h
    have h5:=h a (List.mem_cons_self ..)
    rw [Nat.zero_mul]at h5
    rw [aG,ih fun c hc=>h c (List.mem_cons_of_mem _ hc),if_pos ⟨rfl,by omega⟩]
  exact h4 x h3)
 rw [List.length_range]at h1
 have h3:n≤((List.range (2*n)).filter fun p:Nat => !decide (V (p:Int) x=0)).length:=by omega
 refine⟨((List.range (2*n)).filter fun p:Nat => !decide (V (p:Int) x=0)).take n,(List.take_sublist _ _).nodup (List.nodup_range.filter _),fun p hp=>?_,by rw [List.length_take];omega,fun p hp=>?_⟩
 ·have:=List.mem_range.1 (List.mem_filter.1 (List.mem_of_mem_take hp)).1;omega
 ·have:=(List.mem_filter.1 (List.mem_of_mem_take hp)).2
  simpa using this
namespace ZX
theorem aeR{a w g:ZX}{h n l:Nat}(ha:a≠0)(e:a=w*g)(hH:∀d∈a.l,d.natAbs≤2^h)(hN:N a≤n)(hn:n≤2^l):∀c∈g.l,c.natAbs≤2^(h+n*(2*l+3)):=by
 intro c hc
 have hw:w≠0∧g≠0:=⟨fun h0=>ha (by rw [e,h0];grind),fun h0=>ha (by rw [e,h0];grind)⟩
 have hlen:g.l.length≤n:=by
  have h1:N a=N w+N g-1:=by rw [e,mB hw.1 hw.2]
  have h2:=aK.1 hw.1
  show N g≤n
  omega
 have hn0:1≤n:=by have:=aK.1 ha;omega
 obtain⟨P,p1,p2,p3,p4⟩:=Y6 (x:=a.l) (n:=n) (by
  rw [show aG a.l=a.l from a.c]
  have:=aK.1 ha
  intro h0
  have h3:N a=a.l.length:=rfl
  rw [h3,h0]at this;simp at this) hN
 have hv:∀p∈P,(V (p:Int) g.l).natAbs≤2^h*(2^(l+1))^n:=fun p hp=>by
  have h1:V (p:Int) a.l=V (p:Int) w.l*V (p:Int) g.l:=by
   conv=>lhs;rw [e]
   rw [dK]
  have h2:=p4 p hp
  have h3:(V (p:Int) g.l).natAbs≤(V (p:Int) a.l).natAbs:=by
   rw [h1,Int.natAbs_mul]
   have:V (p:Int) w.l≠0:=fun h0=>h2 (by rw [h1,h0,Int.zero_mul])
   exact Nat.le_mul_of_pos_left _ (by omega)
  refine Nat.le_trans h3 (Nat.le_trans (EJ hH) (Nat.mul_le_mul_left _ ?_))
  have h4:1+p≤2^(l+1):=by have:=p2 p hp;rw [Nat.pow_succ];omega
  exact Nat.le_trans (Nat.pow_le_pow_left h4 _) (Nat.pow_le_pow_right (Nat.two_pow_pos _) hN)
 have h5:=A5 (2*n-1) P _ g.l p1 p2 (by omega) hv c hc
 refine Nat.le_trans h5 ?_
 rw [p3]
 have h7:2*(2*n-1+1)≤2^(l+2):=by rw [Nat.pow_add];omega
 have h8:(2*(2*n-1+1))^n≤(2^(l+2))^n:=Nat.pow_le_pow_left h7 _
 refine Nat.le_trans (Nat.mul_le_mul_left _ h8) (Nat.le_of_eq ?_)
 rw [←Nat.pow_mul,←Nat.pow_mul,←Nat.pow_add,←Nat.pow_add]
 congr 1
 grind
theorem aeS{a w g:ZX}{h n:Nat}(ha:a≠0)(e:a=w*g)(hb:Bd 2 h n a.l)(hn:n+1≤2^h):Bd 2 (h+n*(2*h+5)+1) n g.l:=by
 have hw:w≠0∧g≠0:=⟨fun h0=>ha (by rw [e,h0];grind),fun h0=>ha (by rw [e,h0];grind)⟩
 refine⟨?_,fun c hc=>?_⟩
 ·have h1:N a=N w+N g-1:=by rw [e,mB hw.1 hw.2]
  have h2:=aK.1 hw.1
  have h3:N a≤n:=hb.len
  show N g≤n
  omega
 ·have h1:=aeR (h:=h) (n:=n) (l:=h) ha e (fun d hd=>by
   have h1:=sF (b:=2) (by decide) d
   have h2:=qA (b:=2) (by decide) (hb.sz d hd)
   omega) hb.len (by omega) c hc
  refine cX (by decide) (Nat.lt_of_le_of_lt h1 (Nat.pow_lt_pow_right (by decide) ?_))
  have:n*(2*h+3)≤n*(2*h+5):=Nat.mul_le_mul_left _ (by omega)
  omega
end ZX
end Pm
