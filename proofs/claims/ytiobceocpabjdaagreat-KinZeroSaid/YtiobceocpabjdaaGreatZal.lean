import Derived.Test.YtiobceocpabjdaaGreatZae
import Derived.Test.YtiobceocpabjdaaGreatZak
set_option linter.unusedSimpArgs false
set_option linter.unusedVariables false
namespace Go.Proofs.YtiobceocpabjdaaGreat
open Go Pm
def KJ(l:List Rat):Int:=l.foldl (fun d q=>(d*q.den).tdiv (Int.gcd d q.den)) 1
def U4(d:Int)(l:List Rat):Int:=l.foldl (fun (g:Int) q=>(Int.gcd g ((q.num*d).tdiv q.den):Int)) 0
theorem ac6{l:List Rat}{i:Nat}(h:i<l.length):KJ (l.take (i+1))=(KJ (l.take i)*(nth l i).den).tdiv (Int.gcd (KJ (l.take i)) (nth l i).den):=by
 unfold KJ;rw [bF h,List.foldl_append];rfl
theorem ac7{l:List Rat}{d:Int}{i:Nat}(h:i<l.length):U4 d (l.take (i+1))=(Int.gcd (U4 d (l.take i)) (((nth l i).num*d).tdiv (nth l i).den):Int):=by
 unfold U4;rw [bF h,List.foldl_append];rfl
theorem ac8(q:Rat):RI (q.den:Int) = .ag [aN aI (aU DD q.den), .bool false]:=by
 simp [show ¬((q.den:Int)<0)by omega]
def R4(l:List Rat):Rat:=if (nth l (l.length-1)).num<0 then -(dM (U4 (KJ l) l) (KJ l))else dM (U4 (KJ l) l) (KJ l)
def qpr(l:List Rat):List Rat:=kO l (1/R4 l)
theorem rR(l:List Rat){k:Nat}(hk:k≤YY)(hk1:1≤k)(hl:∀q∈l,ZR k q)(D3:l.length<1099511627776)(h0:l ≠ [])
  (hd:∀i,sz 2 (KJ (l.take i))≤k) (UQ:∀i,0<KJ (l.take i)) (hg:∀i,sz 2 (U4 (KJ l) (l.take i))≤k)
  (hc:ZR YY (R4 l)) (xI:R4 l≠0) (uW:ZR YY (1/R4 l)) :
  aF env.P 155 [PP l] (.dU [RR (R4 l),PP (qpr l)]):=by
 have hkY:k≤137438953472:=hk
 have KU:0<l.length:=List.length_pos_iff.2 h0
 refine cD [(0,PP l)] Tryz.func155 ?_
 refine aA [0,2] ?_
 refine aP [0,2,11] ?_
 refine bJ ?_ ?_<;>intro h
 ·exfalso;simp at h;exact h0 h
 refine W.skip ?_
 refine jG ?_
 refine aC (nZ 1 (by decide) (by decide)) ?_
 simp (disch:=omega) [gw]
 refine bG [0,2,4] ?_
 refine aP [0,2,4,15,16] ?_
 refine W.block ?_
 refine W.bE (fun n σ=>∃(i:Nat) (d:Int) (rows:Pm.Rows) (clk:Nat),σ=⟨fa [(0,PP l),(2, .ptr 2 0 0 0),(4, .ptr 4 1 0 0),(15, .int .i64 l.length),(16, .int .i64 i)],rows,clk⟩ ∧
  rows 2=some ⟨0,31,4,[[.nil, .bool false, .nil, .bool false]]⟩∧rows 4=some ⟨1,29,2,[[aN aI (aU DD d.natAbs), .bool (decide (d<0))]]⟩∧n=l.length-i∧i≤l.length∧d=KJ (l.take i)) l.length ?_ ?_
 ·exact⟨_, .refl,0,1,_,_,rfl,by simp,by simp,by omega,by omega,by simp [KJ]⟩
 rintro n _ ⟨i,d,rows,clk,rfl,bS,dS,hn,hi,hdv⟩
 refine bV [0,2,4,15,16,17] ?_
 refine bJ ?_ ?_<;>intro h
 ·have hi:i<l.length:=by simp at h;omega
  have hq:=hl _ (b7 hi)
  have hdi:=hd i
  have hdp:=UQ i
  have hs:=ac6 hi
  rw [←hdv]at hs hdi hdp
  have hsn:=hd (i+1)
  have m1:=eT d (nth l i).den (by simp only [Z];omega) (by have:=hq.d;simp only [Z];omega)
  have m2:=CQ d (nth l i).den (by simp only [Y];omega) (by have:=hq.d;simp only [Y];omega)
  have zm:=cG (b:=2) (by decide) hdi hq.d
  have hgp:0<Int.gcd d (nth l i).den:=Int.gcd_pos_of_ne_zero_left _ (by omega)
  have zg:Y (Int.gcd d (nth l i).den:Int):=CP (y:=d) (by simp only [Y];omega) (by
   have:=Int.le_of_dvd hdp (Int.gcd_dvd_left d ((nth l i).den:Int));omega)
  have m3:=vS (d*(nth l i).den) (Int.gcd d (nth l i).den) (by omega) (by simp only [Y];omega) zg
  rw [←hs]at m3
  rw [ac8]at m1 m2
  generalize (Int.gcd d (nth l i).den:Int)=gg at *
  generalize d*((nth l i).den:Int)=dd at *
  generalize QB:KJ (l.take (i+1))=d2 at *
  generalize Y9:nth l i=q at *
  refine kY ?_
  refine W.sr ?_
  simp (disch:=omega) [gw,Y9]
  refine bG [0,2,4,5,15,16] ?_
  refine W.LY (fun K hK=>?_)
  simp (disch:=omega) [gw,dS,Y9]
  refine aC m1 ?_
  simp (disch:=omega) [gw,dS,Y9]
  refine aC m2 ?_
  simp (disch:=omega) [gw,dS,Y9]
  refine aC m3 ?_
  simp (disch:=omega) [gw,dS,Y9]
  refine bC (by refine⟨?_,?_⟩<;>kernel_rfl) ?_
  simp (disch:=omega) [gw]
  refine W.lw [0,2,4,15,16] hK ?_;clear hK K;simp
  refine W.cA (fun K hK=>?_);simp (disch:=omega) [gw]
  refine hK _ ⟨l.length-(i+1),_,aB _ [0,2,4,15,16],by omega,i+1,d2,_,_,rfl,by simp [bS],by simp,by omega,by omega,QB.symm⟩
 have hi:i=l.length:=by simp at h;omega
 subst hi
 rw [List.take_length]at hdv
 have hdl:=hd l.length
 have hdp:=UQ l.length
 rw [List.take_length,←hdv]at hdl hdp
 rw [←hdv]at hg
 have hqc:R4 l=if (nth l (l.length-1)).num<0 then -(dM (U4 d l) d)else dM (U4 d l) d:=by rw [hdv];rfl
 refine fH ?_
 refine aA [0,2,4,6] ?_
 refine W.row (id:=6) (els:=[[.nil, .bool false]]) [[aN aI (aU DD 0), .bool false]] (by simp;first | exact⟨rfl,rfl,rfl⟩ | exact⟨rfl,rfl,rfl,rfl⟩) ⟨⟨.inr ⟨rfl,rfl⟩, .inl rfl,trivial⟩,trivial⟩ ?_
 refine aP [0,2,4,6,36,37] ?_
 refine W.block ?_
 clear hdv
 refine W.bE (fun n σ=>∃(i v6:Nat) (g:Int) (rows:Pm.Rows) (clk:Nat),σ=⟨fa [(0,PP l),(2, .ptr 2 0 0 0),(4, .ptr 4 1 0 0),(6, .ptr 6 v6 0 0),(36, .int .i64 l.length),(37, .int .i64 i)],rows,clk⟩ ∧
  rows 2=some ⟨0,31,4,[[.nil, .bool false, .nil, .bool false]]⟩∧rows 4=some ⟨1,29,2,[[aN aI (aU DD d.natAbs), .bool (decide (d<0))]]⟩ ∧
  rows 6=some ⟨v6,29,2,[[aN aI (aU DD g.natAbs), .bool (decide (g<0))]]⟩∧n=l.length-i∧i≤l.length∧g=U4 d (l.take i)) l.length ?_ ?_
 ·exact⟨_, .refl,0,_,0,_,_,rfl,by simp [bS],by simp [dS],by simp,by omega,by omega,by simp [U4]⟩
 clear bS dS rows clk
 rintro n _ ⟨i,v6,g,rows,clk,rfl,bS,dS,pH,hn,hi,hgv⟩
 refine bV [0,2,4,6,36,37,38] ?_
 refine bJ ?_ ?_<;>intro h
 ·have hi:i<l.length:=by simp at h;omega
  have hq:=hl _ (b7 hi)
  have hgi:=hg i
  have hs:=ac7 (d:=d) hi
  rw [←hgv]at hs hgi
  have m1:=eT (nth l i).num d (by have:=hq.n;simp only [Z];omega) (by simp only [Z];omega)
  have zm:=cG (b:=2) (by decide) hq.n hdl
  have m2:=vS ((nth l i).num*d) (nth l i).den (by have:=(nth l i).den_nz;omega) (by simp only [Y];omega) (by have:=hq.d;simp only [Y];omega)
  have zq:Y (((nth l i).num*d).tdiv (nth l i).den):=CP (y:=(nth l i).num*d) (by simp only [Y];omega) (by rw [Int.natAbs_tdiv];exact Nat.div_le_self _ _)
  have m3:=CQ g (((nth l i).num*d).tdiv (nth l i).den) (by simp only [Y];omega) zq
  rw [←hs]at m3
  rw [ac8]at m2
  generalize ((nth l i).num*d).tdiv (nth l i).den=nq at *
  generalize (nth l i).num*d=nd at *
  generalize qT:U4 d (l.take (i+1))=g2 at *
  generalize Y9:nth l i=q at *
  refine kY ?_
  refine W.sr ?_
  simp (disch:=omega) [gw,Y9]
  refine bG [0,2,4,6,7,36,37] ?_
  refine W.LY (fun K hK=>?_)
  simp (disch:=omega) [gw,dS,pH,Y9]
  refine aC m1 ?_
  simp (disch:=omega) [gw,dS,pH,Y9]
  refine aC m2 ?_
  simp (disch:=omega) [gw,dS,pH,Y9]
  refine aC m3 ?_
  simp (disch:=omega) [gw,dS,pH,Y9]
  refine bC (by kernel_rfl) ?_
  simp (disch:=omega) [gw]
  refine W.lw [0,2,4,6,36,37] hK ?_;clear hK K;simp
  refine W.cA (fun K hK=>?_);simp (disch:=omega) [gw]
  refine hK _ ⟨l.length-(i+1),_,aB _ [0,2,4,6,36,37],by omega,i+1,v6,g2,_,_,rfl,by simp [bS],by simp [dS],by simp,by omega,by omega,qT.symm⟩
 have hi:i=l.length:=by simp at h;omega
 subst hi
 rw [List.take_length]at hgv
 have hgl:=hg l.length
 rw [List.take_length]at hgl
 rw [←hgv]at hgl hqc
 have hMk:=kN g d (by simp only [Y];omega) (by simp only [Y];omega)
 have hNg:=MN (dM g d)
 have hQ:=MQ 1 (R4 l) ⟨by show sz 2 1≤YY;exact Nat.le_trans (dW (k:=1) (by decide) (by decide)) (by decide),by show sz 2 1≤YY;exact Nat.le_trans (dW (k:=1) (by decide) (by decide)) (by decide)⟩ hc xI
 have hOf:=n3 1 1 (by decide) (by decide)
 rw [lS,show(((1:Int)):Rat)=1 by simp]at hOf
 have hSc:=uD l (1/R4 l) ⟨fun q hq=>⟨Nat.le_trans (hl q hq).n hk,Nat.le_trans (hl q hq).d hk⟩,D3⟩ uW
 rw [show kO l (1/R4 l)=qpr l from rfl]at hSc
 have e1:((l.length:Int)-1).toNat=l.length-1:=by omega
 generalize qpr l=pr at *
 generalize kA:(1:Rat)=one at *
 generalize one/R4 l=ic at *
 generalize R4 l=cc at *
 generalize hqm:dM g d=c0 at *
 generalize Y9:nth l (l.length-1)=q at *
 refine fH ?_
 refine W.sr ?_
 simp (disch:=omega) [gw,dS,pH]
 refine cQ [0,2,8] hMk ?_
 refine W.iE (fun σ=>∃(v8:Nat) (rows:Pm.Rows) (clk:Nat),σ=⟨fa [(0,PP l),(2, .ptr 2 0 0 0),(8, .ptr 8 v8 0 0)],rows,clk⟩∧rows 2=some ⟨0,31,4,[[.nil, .bool false, .nil, .bool false]]⟩∧rows 8=some ⟨v8,31,4,[re cc]⟩) ?_ ?_
 ·refine W.sr ?_
  simp (disch:=omega) [gw,e1,Y9]
  refine bG [0,2,8,66] ?_
  refine W.ab0 (q.num<0) rfl (fun h=>?_) (fun h=>?_)
  ·rw [if_pos h]at hqc
   rw [←hqc]at hNg
   refine W.cA (fun K hK=>?_)
   simp (disch:=omega) [gw]
   refine cU hNg ?_
   exact hK _ ⟨_,aB _ [0,2,8],_,_,_,rfl,by simp [bS],by simp⟩
  ·rw [if_neg h]at hqc
   refine W.skip ?_
   exact⟨_,aB _ [0,2,8],_,_,_,rfl,by simp [bS],by simp [hqc]⟩
 clear bS dS pH rows clk
 rintro _ ⟨v8,rows,clk,rfl,bS,qH⟩
 refine W.sd ?_
 simp (disch:=omega) [gw,qH]
 refine aC hOf ?_
 simp (disch:=omega) [gw,qH]
 refine aC hQ ?_
 simp (disch:=omega) [gw,qH]
 refine aC hSc ?_
 simp (disch:=omega) [gw,bS,qH]
 refine bG [2,3] ?_
 exact cC
theorem U5(x:List Int)(hx:∀c∈x,Z c)(hl:x.length<1099511627776):aF env.P 100 [PI x] (Po x):=by
 refine cD [(0,PI x)] Tryz.func100 ?_
 refine aA [0] ?_
 refine aA [0,3] ?_
 refine W.nil 3 3 38 2 (by simp) (by decide) (fun K hK=>?_)
 refine W.lw [0,3] hK ?_;clear hK K;simp
 refine aP [0,3,6,7] ?_
 refine W.block ?_
 refine W.bE (fun k σ=>∃(i ver:Nat) (rows:Pm.Rows) (clk:Nat),σ=⟨fa [(0,PI x),(3, .own 3 ver 0 i),(6, .int .i64 x.length),(7, .int .i64 i)],rows,clk⟩∧rows 3=some ⟨ver,38,2,emap ie (x.take i)⟩∧k=x.length-i∧i≤x.length) x.length ?_ ?_
 ·exact⟨_, .refl,0,_,_,_,rfl,by simp [emap],by omega,by omega⟩
 rintro k _ ⟨i,ver,rows,clk,rfl,hr,hk,hi⟩
 refine bV [0,3,6,7,8] ?_
 refine W.cond ⟨_,rfl,fun h0=>?_,fun h0=>?_⟩
 ·have h0:i<x.length:=by simp at h0;omega
  have gC:(x.take i).length=i:=by simp;omega
  have hT:=IL (nth x i) (hx _ (b7 h0))
  refine kY ?_
  refine aA [0,3,4,6,7] ?_
  refine W.cA (fun K hK=>?_)
  simp (disch:=omega) [gw]
  refine aC hT ?_
  simp (disch:=omega) [gw,hr,gC]
  refine W.lw [0,3,6,7] hK ?_;clear hK K;simp
  refine W.cA (fun K hK=>?_);simp (disch:=omega) [gw]
  refine hK _ ⟨x.length-(i+1),_,aB _ [0,3,6,7],by omega,i+1,_,_,_,rfl,?_,by omega,by omega⟩
  rw [bF h0]
  simp
 ·have lV:i=x.length:=by simp at h0;omega
  subst lV
  rw [List.take_length]at hr
  refine fH ?_
  refine W.sr ?_
  simp (disch:=omega) [gw,hr]
  refine bG [2] ?_
  refine W.ret ?_
  simp [go,hr]
theorem IZ(x:List Int):KJ (qs x)=1:=by
 have key:∀l:List Int,(qs l).foldl (fun (d:Int) q=>(d*q.den).tdiv (Int.gcd d q.den)) 1=1:=by
  intro l
  induction l with
  | nil=>rfl
  | cons a l ih =>
   simp only [qs,List.map_cons,List.foldl_cons,Rat.den_intCast]at ih ⊢
   exact ih
 exact key x
theorem ac9(x:List Int):U4 1 (qs x)=bN x:=by
 have key:∀(l:List Int) (g:Nat),(qs l).foldl (fun (g:Int) q=>(Int.gcd g ((q.num*1).tdiv q.den):Int)) g=(l.foldl (fun g c=>Nat.gcd g c.natAbs) g:Nat):=by
  intro l
  induction l with
  | nil=>intro g;rfl
  | cons a l ih =>
   intro g
   have:=ih (Nat.gcd g a.natAbs)
   simp only [qs,List.map_cons,List.foldl_cons,Rat.den_intCast,Rat.num_intCast]at this ⊢
   rw [←this]
   congr 1
   simp [Int.gcd]
 exact key x 0
theorem I0(x:List Int)(i:Nat):(qs x).take i=qs (x.take i):=by simp [qs,List.map_take]
theorem C5{x:List Int}(hx:0<x.length):R4 (qs x)=(lL x:Rat):=by
 have e:(nth (qs x) ((qs x).length-1)).num=lead x:=by rw [acC];simp [lead]
 unfold R4 lL
 rw [IZ,ac9,lS,e]
 split
 ·rw [Rat.intCast_neg]
 ·rfl
theorem anA{x:List Int}(cx:Cn x)(hx:x ≠ []):qpr (qs x)=qs (rQ x):=by
 have o7:=List.length_pos_iff.2 hx
 have h0:=n4 x
 have gx:=cO cx hx
 have hp:lL x≠0:=by omega
 have hc:=gV hp
 rw [qpr,C5 o7,kO,rQ,←vT]
 congr 1
 simp only [qs,List.map_map]
 refine List.map_congr_left fun v hv=>?_
 simp only [Function.comp_apply]
 have hd:=IQ x v hv
 obtain⟨w,rfl⟩:=hd
 have:pV (lL x) (lL x*w)=w:=by
  unfold pV
  rw [if_pos (Int.mul_emod_right _ _)]
  exact Int.mul_ediv_cancel_left _ hp
 rw [this,Rat.intCast_mul]
 grind
theorem mM{x:List Int}{s:Nat}(hs:∀c∈x,sz 2 c≤s):sz 2 (bN x:Int)≤s:=by
 by_cases h:∃c∈x,c≠0
 ·obtain⟨c,hc,h0⟩:=h
  refine Nat.le_trans (dJ (by decide) ?_) (hs c hc)
  have:=Int.le_of_dvd (a:=(bN x:Int)) (b:=(c.natAbs:Int)) (by omega) (Int.dvd_natAbs.2 (iI x _ hc))
  omega
 ·have h1:bN x=0:=by
   have h2:(0:Nat)∣bN x:=C3 fun c hc=>by
    have:c=0:=Classical.byContradiction fun h3=>h ⟨c,hc,h3⟩
    rw [this];exact Int.dvd_refl _
   exact Nat.eq_zero_of_zero_dvd h2
  rw [h1];show sz 2 0≤s;rw [kJ];omega
theorem C6(x:List Int){s n:Nat}(hx:Bd 2 s n x)(cx:Cn x)(vO:1≤s)(hs:s≤YY)(hn:n<1099511627776):aF env.P 155 [PI x] (.dU [.ag (ri (lL x)),PI (rQ x)]):=by
 have hlx:=hx.len
 by_cases h0:x = []
 ·subst h0
  have hz:=sK
  rw [show lL ([]:List Int)=0 by decide,show rQ ([]:List Int) = []from rfl]
  refine cD [(0,PI [])] Tryz.func155 ?_
  refine aA [0,2] ?_
  refine aP [0,2,11] ?_
  refine bJ ?_ ?_<;>intro h
  ·refine aR [2,3] hz ?_
   refine W.ret ?_
   simp [go]
   all_goals rfl
  ·simp at h
 ·have o7:=List.length_pos_iff.2 h0
  have hp:=n4 x
  have gx:=cO cx h0
  have hp0:lL x≠0:=by omega
  have hgs:∀i,sz 2 (bN (x.take i):Int)≤s:=fun i=>mM fun c hc=>hx.sz c (List.mem_of_mem_take hc)
  have yX:sz 2 (lL x)≤s:=by
   have:=mM hx.sz
   unfold lL;split
   ·rw [oI];exact this
   ·exact this
  have s1:sz 2 1≤1:=dW (by decide) (by decide)
  have zc:ZR YY (lL x:Rat):=rO (Nat.le_trans yX hs) (by decide)
  have e1:(1:Rat)/(lL x:Rat)=dM 1 (lL x):=by rw [fJ hp0];simp
  have:=rR (qs x) hs vO (fun q hq=>by
   simp only [qs,List.mem_map]at hq
   obtain⟨c,hc,rfl⟩:=hq
   exact rO (hx.sz c hc) vO) (by simp;omega) (by simpa [qs]using h0)
   (fun i=>by rw [I0,IZ];omega) (fun i=>by rw [I0,IZ];decide) (fun i=>by rw [IZ,I0,ac9];exact hgs i)
   (by rw [C5 o7];exact zc) (by rw [C5 o7];exact gV hp0) (by rw [C5 o7,e1];exact uF hp0 (by show sz 2 1≤137438953472;omega) (Nat.le_trans yX hs))
  rw [C5 o7,anA cx h0,tN,tN,RR,iH]at this
  exact this
theorem ZA{D a b:Nat}(hD:0<D)(ha:a∣D)(hb:b∣D):Nat.lcm (D/a) (D/b)=D/Nat.gcd a b:=by
 have ha0:0<a:=Nat.pos_of_dvd_of_pos ha hD
 have hb0:0<b:=Nat.pos_of_dvd_of_pos hb hD
 have hg:0<Nat.gcd a b:=Nat.gcd_pos_of_pos_left _ ha0
 obtain⟨a',b',hc,ea,eb⟩:=Nat.exists_coprime a b
 generalize Nat.gcd a b=g at *
 obtain⟨p,hp⟩:=ha
 obtain⟨q,hq⟩:=hb
 have h1:a'*p=b'*q:=by
  have:g*(a'*p)=g*(b'*q):=by rw [ea]at hp;rw [eb]at hq;grind
  exact Nat.eq_of_mul_eq_mul_left hg this
 have h2:a'∣q:=hc.dvd_of_dvd_mul_left (by rw [←h1];exact Nat.dvd_mul_right _ _)
 obtain⟨m,rfl⟩:=h2
 have ay3:0<a':=by
  rcases Nat.eq_zero_or_pos a' with h | h
  ·rw [h]at ea;omega
  ·exact h
 have h3:p=b'*m:=by
  have:a'*p=a'*(b'*m):=by rw [h1];grind
  exact Nat.eq_of_mul_eq_mul_left ay3 this
 subst h3
 have e1:D/a=b'*m:=by rw [hp];exact Nat.mul_div_cancel_left _ ha0
 have e2:D/b=a'*m:=by rw [hq];exact Nat.mul_div_cancel_left _ hb0
 have e3:D/g=a'*b'*m:=by
  rw [hp,ea,show a'*g*(b'*m)=g*(a'*b'*m)by grind]
  exact Nat.mul_div_cancel_left _ hg
 rw [e1,e2,e3,Nat.lcm_mul_right,Nat.lcm_comm,Nat.lcm,show a'.gcd b'=1 from hc,Nat.div_one]
theorem ada(n:Nat)(q:Rat):((n:Int)*q.den).tdiv (Int.gcd n q.den)=(Nat.lcm n q.den:Nat):=by
 have:Int.gcd (n:Int) (q.den:Int)=Nat.gcd n q.den:=rfl
 rw [this,←Int.natCast_mul,←Int.ofNat_tdiv]
 rfl
theorem y6{v:Int}{D:Nat}(hD:0<D):(dM v D).den=D/Nat.gcd D v.natAbs:=by
 have h:=sJ v D (by omega)
 have h2:¬(D:Int)<0:=by omega
 simp only [h2,if_false]at h
 have:Int.gcd v (D:Int)=Nat.gcd D v.natAbs:=by rw [Int.gcd,Nat.gcd_comm];rfl
 rw [this]at h
 exact_mod_cast h
theorem y7{v:Int}{D:Nat}(hD:0<D):(dM v D).num=v/(Nat.gcd D v.natAbs:Nat):=by
 have h:=sI v D (by omega)
 have h2:¬(D:Int)<0:=by omega
 simp only [h2,if_false]at h
 have:Int.gcd v (D:Int)=Nat.gcd D v.natAbs:=by rw [Int.gcd,Nat.gcd_comm];rfl
 rw [this]at h
 exact h
def gcD(D:Nat)(x:List Int):Nat:=Nat.gcd D (bN x)
theorem I1{D:Nat}(hD:0<D)(x:List Int):KJ (qd x D)=(D/gcD D x:Nat):=by
 have key:∀(l:List Int) (g:Nat),g∣D→(qd l D).foldl (fun (d:Int) q=>(d*q.den).tdiv (Int.gcd d q.den)) (D/g:Nat)=(D/(l.foldl (fun g c=>Nat.gcd g c.natAbs) g):Nat):=by
  intro l
  induction l with
  | nil=>intro g _;rfl
  | cons a l ih =>
   intro g hg
   have h1:=ih (Nat.gcd g a.natAbs) (Nat.dvd_trans (Nat.gcd_dvd_left _ _) hg)
   simp only [qd,List.map_cons,List.foldl_cons]at h1 ⊢
   rw [ada,y6 hD,ZA hD hg (Nat.gcd_dvd_left _ _)]
   rw [show Nat.gcd g (Nat.gcd D a.natAbs)=Nat.gcd g a.natAbs by rw [←Nat.gcd_assoc,Nat.gcd_eq_left hg]]
   exact h1
 have h2:∀(l:List Int) (g:Nat),l.foldl (fun g c=>Nat.gcd g c.natAbs) g=Nat.gcd g (bN l):=by
  intro l
  unfold bN
  induction l with
  | nil=>intro g;simp
  | cons a l ih =>
   intro g
   simp only [List.foldl_cons]
   rw [ih,ih (Nat.gcd 0 a.natAbs),Nat.gcd_zero_left,Nat.gcd_assoc]
 have h3:=key x D (Nat.dvd_refl _)
 rw [Nat.div_self hD,h2]at h3
 exact h3
theorem adb{D:Nat}(hD:0<D)(x:List Int){G:Nat}(hG:G∣D)(hx:∀c∈x,(G:Int)∣c):U4 (D/G:Nat) (qd x D)=(bN x/G:Nat):=by
 have hG0:0<G:=Nat.pos_of_dvd_of_pos hG hD
 have key:∀(l:List Int) (g:Nat),(∀c∈l,(G:Int)∣c)→G∣g→(qd l D).foldl (fun (g:Int) q=>(Int.gcd g ((q.num*((D/G:Nat):Int)).tdiv q.den):Int)) (g/G:Nat)=((l.foldl (fun g c=>Nat.gcd g c.natAbs) g)/G:Nat):=by
  intro l
  induction l with
  | nil=>intro g _ _;rfl
  | cons a l ih =>
   intro g hl hg
   have ha:G∣a.natAbs:=Int.ofNat_dvd_left.1 (hl a (by simp))
   have h1:=ih (Nat.gcd g a.natAbs) (fun c hc=>hl c (by simp [hc])) (Nat.dvd_gcd hg ha)
   simp only [qd,List.map_cons,List.foldl_cons]at h1 ⊢
   have e:((dM a D).num*((D/G:Nat):Int)).tdiv (dM a D).den=a/(G:Int):=by
    rw [y7 hD,y6 hD]
    have UQ:Nat.gcd D a.natAbs∣D:=Nat.gcd_dvd_left _ _
    have QB:Nat.gcd D a.natAbs∣a.natAbs:=Nat.gcd_dvd_right _ _
    have hgp:0<Nat.gcd D a.natAbs:=Nat.gcd_pos_of_pos_left _ hD
    generalize Nat.gcd D a.natAbs=k at *
    obtain⟨m,hm⟩:=UQ
    obtain⟨n,hn⟩:(k:Int)∣a:=Int.ofNat_dvd_left.2 QB
    obtain⟨p,hp⟩:=hG
    obtain⟨r,hr⟩:=hl a (by simp)
    have O1:0<m:=by
     rcases Nat.eq_zero_or_pos m with h | h
     ·rw [h]at hm;omega
     ·exact h
    rw [show a/(k:Int)=n by rw [hn];exact Int.mul_ediv_cancel_left _ (by omega),show D/G=p by rw [hp];exact Nat.mul_div_cancel_left _ hG0,show D/k=m by rw [hm];exact Nat.mul_div_cancel_left _ hgp,
     show a/(G:Int)=r by rw [hr];exact Int.mul_ediv_cancel_left _ (by omega)]
    have e2:n*(p:Int)=m*r:=by
     have hDI:(k:Int)*m=G*p:=by exact_mod_cast hm.symm.trans hp
     have hk:(k:Int)*n=G*r:=hn.symm.trans hr
     have xC:(k:Int)≠0:=by omega
     have hG1:(G:Int)≠0:=by omega
     have:(k:Int)*G*(n*p)=k*G*(m*r):=by
      have e3:(k:Int)*G*(n*p)=(k*n)*(G*p):=by grind
      rw [e3,hk,←hDI];grind
     exact Int.eq_of_mul_eq_mul_left (Int.mul_ne_zero xC hG1) this
    rw [e2]
    exact Int.mul_tdiv_cancel_left _ (by omega)
   rw [e,show Int.gcd ((g/G:Nat):Int) (a/(G:Int))=Nat.gcd g a.natAbs/G from ?_]
   ·exact h1
   ·rw [Int.gcd,Int.natAbs_natCast,←Nat.gcd_div hg ha]
    congr 1
    obtain⟨r,hr⟩:=hl a (by simp)
    rw [hr,Int.mul_ediv_cancel_left _ (show (G:Int)≠0 by omega),Int.natAbs_mul,Int.natAbs_natCast,Nat.mul_div_cancel_left _ hG0]
 have:=key x 0 hx (Nat.dvd_zero _)
 rw [Nat.zero_div]at this
 exact this
theorem vZ(D:Nat)(x:List Int):gcD D x∣D:=Nat.gcd_dvd_left _ _
theorem U6{D:Nat}(hD:0<D)(x:List Int):0<gcD D x:=Nat.gcd_pos_of_pos_left _ hD
theorem U7(D:Nat)(x:List Int):∀c∈x,((gcD D x:Nat):Int)∣c:=fun c hc=>Int.dvd_trans (Int.ofNat_dvd.2 (Nat.gcd_dvd_right _ _)) (iI x c hc)
theorem y8{v:Int}{D:Nat}(hD:0<D):(dM v D).num<0↔v<0:=by
 rw [y7 hD]
 have hg:0<Nat.gcd D v.natAbs:=Nat.gcd_pos_of_pos_left _ hD
 obtain⟨n,hn⟩:((Nat.gcd D v.natAbs:Nat):Int)∣v:=Int.ofNat_dvd_left.2 (Nat.gcd_dvd_right _ _)
 generalize Nat.gcd D v.natAbs=g at *
 rw [hn,Int.mul_ediv_cancel_left _ (show (g:Int)≠0 by omega)]
 constructor
 ·intro h;exact Int.mul_neg_of_pos_of_neg (by omega) h
 ·intro h
  rcases Int.lt_or_le n 0 with h1 | h1
  ·exact h1
  ·have:=Int.mul_nonneg (show (0:Int)≤g by omega) h1
   omega
theorem ade{D:Nat}(hD:0<D){x:List Int}(hx:0<x.length):R4 (qd x D)=dM (lL x) D:=by
 have GH:(D:Int)≠0:=by omega
 have e:(nth (qd x D) ((qd x D).length-1)).num<0↔lead x<0:=by
  rw [IW GH,y8 hD];simp [lead]
 have hG:=U6 hD x
 have e2:dM (U4 (KJ (qd x D)) (qd x D)) (KJ (qd x D))=dM (bN x) D:=by
  rw [I1 hD,adb hD x (vZ D x) (U7 D x)]
  have h1:D/gcD D x*gcD D x=D:=Nat.div_mul_cancel (vZ D x)
  have h2:bN x/gcD D x*gcD D x=bN x:=Nat.div_mul_cancel (Nat.gcd_dvd_right _ _)
  have h3:0<D/gcD D x:=Nat.div_pos (Nat.le_of_dvd hD (vZ D x)) hG
  have h4:=U2 (v:=(bN x/gcD D x:Nat)) (D:=(D/gcD D x:Nat)) (l:=(gcD D x:Nat)) (by omega) (by omega)
  rw [←Int.natCast_mul,←Int.natCast_mul,h1,h2]at h4
  exact h4.symm
 unfold R4 lL
 rw [e2]
 by_cases h:lead x<0
 ·rw [if_pos (e.2 h),if_pos h,←U3 GH];grind
 ·rw [if_neg (fun h2=>h (e.1 h2)),if_neg h]
theorem U8{v D:Int}(hD:D≠0)(hv:v≠0):1/dM v D=dM D v:=by
 rw [fJ hD,fJ hv]
 have h1:=gV hD
 have h2:=gV hv
 grind
theorem R5{x:List Int}(cx:Cn x)(hx:x ≠ []):lL x≠0:=by
 have h0:=n4 x
 have gx:=cO cx hx
 omega
theorem anC{D:Nat}(hD:0<D){x:List Int}(cx:Cn x)(hx:x ≠ []):qpr (qd x D)=qs (rQ x):=by
 have o7:=List.length_pos_iff.2 hx
 have GH:(D:Int)≠0:=by omega
 have hp:=R5 cx hx
 have hc:=gV hp
 have hDc:=gV GH
 rw [qpr,ade hD o7,U8 GH hp,kO,rQ,←vT]
 congr 1
 simp only [qd,qs,List.map_map]
 refine List.map_congr_left fun v hv=>?_
 simp only [Function.comp_apply]
 obtain⟨w,rfl⟩:=IQ x v hv
 have:pV (lL x) (lL x*w)=w:=by
  unfold pV
  rw [if_pos (Int.mul_emod_right _ _)]
  exact Int.mul_ediv_cancel_left _ hp
 rw [this,fJ GH,fJ hp,Rat.intCast_mul]
 grind
theorem NG(x:List Int):j6 x=if lead x<0 then gW (rQ x)else rQ x:=by
 unfold rQ lL
 split
 ·have e:∀v,pV (-(bN x:Int)) v = - pV (bN x) v:=fun v=>by
   unfold pV
   rw [Int.emod_neg,Int.ediv_neg]
   split<;>simp
  refine Cn.ext (Cn.cut _) (Cn.gW _) fun t=>?_
  rw [B8,c8,j6,c8]
  have h1:=gX (t:=t) (-1) (pV (bN x)) x
  have h2:(x.map fun v=>pV (bN x) v * -1)=x.map (pV (-(bN x:Int))):=List.map_congr_left fun v _=>by rw [e];omega
  rw [h2]at h1
  rw [h1];omega
 ·rfl
theorem R6(x:List Int)(D:Nat)(hD:0<D){s n:Nat}(hx:Bd 2 s n x)(sD:sz 2 D≤s)(cx:Cn x)(h0:x ≠ [])(vO:1≤s)(hs:s≤YY)(hn:n<1099511627776) :
  aF env.P 155 [PP (qd x D)] (.dU [RR (dM (lL x) D),PI (rQ x)]):=by
 have GH:(D:Int)≠0:=by omega
 have o7:=List.length_pos_iff.2 h0
 have hp:=R5 cx h0
 have hlen:=hx.len
 have sdiv:∀(a b:Nat),sz 2 (a:Int)≤s→sz 2 ((a/b:Nat):Int)≤s:=fun a b h=>Nat.le_trans (dJ (by decide) (by rw [Int.natAbs_natCast,Int.natAbs_natCast];exact Nat.div_le_self a b)) h
 have spc:sz 2 (lL x)≤s:=by
  have:=mM hx.sz
  refine Nat.le_trans (dJ (by decide) (Nat.le_of_eq ?_)) this
  rw [n4];rfl
 have tk:∀i,(qd x D).take i=qd (x.take i) D:=fun i=>by simp [qd,List.map_take]
 have hc:=ade hD o7
 have h1:=rR (qd x D) (k:=s) hs vO (fun q hq=>by
   simp only [List.mem_map]at hq
   obtain⟨v,hv,rfl⟩:=hq
   exact uF GH (hx.sz v hv) sD) (by simp;omega) (by simpa using h0)
  (fun i=>by rw [tk,I1 hD];exact sdiv _ _ sD)
  (fun i=>by
   rw [tk,I1 hD]
   have:=Nat.div_pos (Nat.le_of_dvd hD (vZ D (x.take i))) (U6 hD _)
   omega)
  (fun i=>by
   rw [tk,I1 hD,adb hD (x.take i) (vZ D x) (fun c hc=>U7 D x c (List.mem_of_mem_take hc))]
   exact sdiv _ _ (mM fun c hc=>hx.sz c (List.mem_of_mem_take hc)))
  (by rw [hc];exact uF GH (Nat.le_trans spc hs) (Nat.le_trans sD hs))
  (by rw [hc];exact fun h=>hp ((yZ GH).1 h))
  (by rw [hc,U8 GH hp];exact uF hp (Nat.le_trans sD hs) (Nat.le_trans spc hs))
 rw [hc,anC hD cx h0,tN]at h1
 exact h1
theorem adf{x:List Int}{s n:Nat}(hx:Bd 2 s n x):Bd 2 s n (rQ x):=Bd.cut ⟨by simpa using hx.len,fun c hc=>by
 simp only [List.mem_map]at hc
 obtain⟨v,hv,rfl⟩:=hc
 refine Nat.le_trans (dJ (by decide) ?_) (hx.sz v hv)
 unfold pV
 split
 ·exact Int.natAbs_ediv_le_natAbs _ _
 ·simp⟩
theorem NH(x:List Int)(D:Nat)(hD:0<D){s n:Nat}(hx:Bd 2 s n x)(sD:sz 2 D≤s)(cx:Cn x)(vO:1≤s)(hs:s≤YY)(hn:n<1099511627776) :
  aF env.P 159 [PP (qd x D)] (PI (j6 x)):=by
 have GH:(D:Int)≠0:=by omega
 have bp:=adf hx
 have hN:=F8 (rQ x) (bp.mono hs (by omega))
 rw [NG]
 have hP:∃q:Rat,aF env.P 155 [PP (qd x D)] (.dU [RR q,PI (rQ x)])∧(q.num<0↔lead x<0):=by
  by_cases h0:x = []
  ·subst h0
   refine⟨(lL []:Int),?_,?_⟩
   ·have:=C6 [] hx cx vO hs hn
    rw [RR,iH]
    exact this
   ·rw [show lL ([]:List Int)=0 by decide];decide
  ·refine⟨_,R6 x D hD hx sD cx h0 vO hs hn,?_⟩
   rw [y8 hD]
   have gx:=cO cx h0
   unfold lL
   split<;>omega
 obtain⟨q,hP,hq⟩:=hP
 generalize rQ x=y at *
 generalize qd x D=l at *
 refine cD [(0,PP l)] Tryz.func159 ?_
 refine aA [0] ?_
 refine aR [3,4] hP ?_
 refine aP [4,12] ?_
 refine bJ ?_ ?_<;>intro h
 ·simp at h
  rw [if_pos (hq.1 h)]
  refine aR [2] hN ?_
  exact cC
 ·have h:¬q.num<0:=by simpa using h
  rw [if_neg (fun h2=>h (hq.2 h2))]
  refine W.skip ?_
  refine aA [2] ?_
  exact cC
theorem NI(x y:List Int){s s' N:Nat}(hx:Bd 2 s N x)(hy:Bd 2 s' N y)(cx:Cn x)(cy:Cn y)(RB:0<y.length)(hs:1≤s)(hB:s+(N+1)*(s'+N+2)+s'+N+N+10<137438953472) :
  aF env.P 256 [PP (qs x),PP (qs y)] (.dU [PP (qd (aQ (dmd x y).Q) (dmd x y).D),PP (qd (dmd x y).r (dmd x y).D)]):=by
 have hNx:=hx.len
 have hNy:=hy.len
 have hl:=dA cy RB
 have hls:=gU hy
 have hM:x.length+1≤N+1:=by omega
 refine cZ (E:=env) (fun id=>if id=17 then 2 else 0) [(0,PP (qs x)),(1,PP (qs y))] Tryz.func256 rfl (by kernel_rfl) (by kernel_rfl) (show 2≤84 by decide) (by simp) ?_
 obtain⟨R0,HT⟩:∃R0,R0=Y8 y (x.length+1) ⟨List.replicate (jP x y) 0,x,1⟩:=⟨_,rfl⟩
 rw [show dmd x y=R0 from HT.symm]
 have hkN:jP x y≤N:=by unfold jP;omega
 have hkk:(if (x.length:Int)-(y.length:Int)+1<0 then 0 else(x.length:Int)-(y.length:Int)+1)=(jP x y:Int):=by unfold jP;split<;>omega
 have hI0:uG x y ⟨List.replicate (jP x y) 0,x,1⟩:=uG.start cx
 generalize xC:jP x y=k0 at *
 obtain⟨a0,ha0⟩:∃a0,a0=qs x:=⟨_,rfl⟩
 obtain⟨yq,hyq⟩:∃yq,yq=qs y:=⟨_,rfl⟩
 have la0:a0.length=x.length:=by rw [ha0];simp
 have lyq:yq.length=y.length:=by rw [hyq];simp
 rw [←ha0,←hyq]
 refine aA [0,1] ?_
 refine W.sr ?_
 simp (disch:=omega) [gw,la0,lyq,hkk]
 refine bG [0,1,6] ?_
 refine aP [0,1,6,21,22] ?_
 refine W.block ?_
 refine W.bE (fun k σ=>∃(i ver:Nat) (els:List (List PV)) (rows:Pm.Rows) (clk:Nat),σ=⟨fa [(0,PP a0),(1,PP yq),(6, .own 19 ver 0 k0),(21, .int .i64 k0),(22, .int .i64 i)],rows,clk⟩ ∧
  rows 19=some ⟨ver,31,4,els⟩∧els.length=k0∧(∀e∈els,e.length=4)∧els.take i=emap ri (List.replicate i 0)∧k=k0-i∧i≤k0) k0 ?_ ?_
 ·exact⟨_, .refl,0,_,List.replicate k0 [.nil, .bool false, .nil, .bool false],_,_,rfl,by simp,by simp,by simp,by simp [emap],by omega,by omega⟩
 rintro k _ ⟨i,ver,els,rows,clk,rfl,hr,mR,MU,qG,hk,hi⟩
 have X6:bH 4 els=True:=by simp only [bH,eq_iff_iff,iff_true];exact MU
 refine bV [0,1,6,21,22,23] ?_
 refine bJ ?_ ?_<;>intro h
 ·have h:i<k0:=by simp at h;omega
  refine kY ?_
  refine aA [0,1,6,7,21,22] ?_
  refine W.cA (fun K hK=>?_)
  simp (disch:=omega) [gw]
  refine aC sK ?_
  have uC:i<els.length:=by omega
  have hE:tM els i 4=True:=by
   simp only [eq_iff_iff,iff_true]
   exact⟨els[i],List.getElem?_eq_getElem uC,by rw [MU _ (List.getElem_mem uC)];omega⟩
  have hS:gZ els i 0 [aN aI (aU DD 0), .bool false,aN aI (aU DD 1), .bool false]=els.set i (ri 0):=by
   have h4:=MU _ (List.getElem_mem uC)
   rw [gZ,List.getElem?_eq_getElem uC]
   simp [List.drop_of_length_le,h4]
  simp (disch:=omega) [gw,hr,hE,hS]
  refine W.lw [0,1,6,21,22] hK ?_;clear hK K;simp
  refine W.cA (fun K hK=>?_);simp (disch:=omega) [gw]
  refine hK _ ⟨k0-(i+1),_,aB _ [0,1,6,21,22],by omega,i+1,ver,els.set i (ri 0),_,_,rfl,by simp,by simpa using mR,fun e he=>?_,?_,by omega,by omega⟩
  ·rcases List.mem_or_eq_of_mem_set he with h1 | h1
   ·exact MU e h1
   ·rw [h1];rfl
  ·rw [l5 qG (by omega),List.replicate_succ']
   simp [emap]
 have h:i=k0:=by simp at h;omega
 subst h
 have nT:els=emap re (qd (List.replicate i 0) 1):=by rw [IX,C4,←qG,bM mR]
 subst nT
 rw [show a0=qd x 1 by rw [ha0,IX]]
 clear qG MU mR X6 hk hi hkk ha0 la0 a0
 refine fH ?_
 refine W.seq ?_
 refine W.block ?_
 generalize hdd:s'+N+2=d at *
 have hNN:∀j,(x.length+1-j)*d≤(N+1)*d:=fun j=>Nat.mul_le_mul_right _ (by omega)
 refine W.bE (fun n σ=>∃(Q r:List Int) (D:Int) (v6:Nat) (rows:Pm.Rows) (clk:Nat),σ=⟨fa [(0,PP (qd r D)),(1,PP yq),(6, .own 19 v6 0 i)],rows,clk⟩ ∧
  rows 19=some ⟨v6,31,4,emap re (qd Q D)⟩∧Q.length=i∧uG x y ⟨Q,r,D⟩∧r.length<n∧n≤x.length+1∧Y8 y n ⟨Q,r,D⟩=R0∧Bd 2 (s+(x.length+1-n)*d) N r∧sz 2 D≤s+(x.length+1-n)*d) (x.length+1) ?_ ?_
 ·exact⟨_,aB _ [0,1,6],_,x,1,_,_,_,rfl,hr,by simp,hI0,by omega,by omega,HT.symm,hx.mono (by omega) (by omega),Nat.le_trans (dW (k:=1) (by decide) (by decide)) (by omega)⟩
 clear hr rows clk ver
 rintro n _ ⟨Q,r,D,v6,rows,clk,rfl,hr,hQ,hI,hrn,hnM,hd,br,bD⟩
 have hD:D≠0:=hI.d
 have hnn:=hNN n
 obtain⟨a,ha⟩:∃a,a=qd r D:=⟨_,rfl⟩
 have la:a.length=r.length:=by rw [ha];simp
 rw [←ha]
 refine W.seq ?_
 refine W.sr ?_
 simp (disch:=omega) [gw,la,lyq]
 refine bG [0,1,6,34] ?_
 refine bJ ?_ ?_<;>intro h
 ·have h:y.length≤r.length:=by simp at h;omega
  obtain⟨n,rfl⟩:∃m,n=m+1:=⟨n-1,by omega⟩
  obtain⟨k,hk⟩:∃k,k=r.length-y.length:=⟨_,rfl⟩
  have hkI:(r.length:Int)-(y.length:Int)=k:=by omega
  have hki:k<i:=by have:=hI.q.resolve_right (show ¬r.length<y.length by omega);simp only at this;omega
  have hI2:=hI.step cy RB h
  have KH:=IY (σ:=⟨Q,r,D⟩) RB h
  rw [Y8,if_neg (show ¬r.length<y.length by omega)]at hd
  simp only [dst,←hk]at hI2 KH hd
  have hT:s+(x.length+1-n)*d=s+(x.length+1-(n+1))*d+d:=by
   rw [show x.length+1-n=(x.length+1-(n+1))+1 by omega,Nat.add_mul,Nat.one_mul];omega
  have hn3:=hNN n
  generalize hU:s+(x.length+1-(n+1))*d=U at *
  have hlr:=gU br
  have hNr:=br.len
  have GG:D*lead y≠0:=Int.mul_ne_zero hD hl
  have zD2:sz 2 (D*lead y)≤U+s':=cG (by decide) bD hls
  have hp:nth a (r.length-1)=dM (lead r) D:=by rw [ha,IW hD];rfl
  have O4:nth yq (y.length-1)=(lead y:Rat):=by rw [hyq,acC];rfl
  have at1:=MQ (dM (lead r) D) (lead y:Rat) (uF hD (Nat.le_trans hlr (by show U≤137438953472;omega)) (Nat.le_trans bD (by show U≤137438953472;omega))) (rO (Nat.le_trans hls (by show s'≤137438953472;omega)) (by decide)) (gV hl)
  rw [ahd hD hl]at at1
  have hSc:=uD yq (dM (lead r) (D*lead y)) (by rw [hyq];exact YK.qs (fun c hc=>Nat.le_trans (hy.sz c hc) (by show s'≤137438953472;omega)) (by omega)) (uF GG (Nat.le_trans hlr (by show U≤137438953472;omega)) (Nat.le_trans zD2 (by show U+s'≤137438953472;omega)))
  rw [hyq,Y7 GG,←hyq]at hSc
  have bsc:Bd 2 (U+s') N (bA y (lead r)):=(hy.bA (by decide) hlr).mono (by omega) (by omega)
  have bw:Bd 2 (U+s') N (List.replicate k 0++bA y (lead r)):=⟨by have:=pR y (lead r);simp;omega,fun c hc=>by
   rcases List.mem_append.1 hc with h1 | h1
   ·rw [(List.mem_replicate.1 h1).2,kJ];omega
   ·exact bsc.sz c h1⟩
  have brl:Bd 2 (U+s') N (r.map (· * lead y)):=⟨by simpa using br.len,fun c hc=>by
   simp only [List.mem_map]at hc
   obtain⟨v,hv,rfl⟩:=hc
   exact cG (by decide) (br.sz v hv) hls⟩
  have hSu:=ac5 (qd (r.map (· * lead y)) (D*lead y)) (qd (List.replicate k 0++bA y (lead r)) (D*lead y)) _
   (R3 GG brl zD2 (by show U+s'≤137438953472;omega) (by omega)) (R3 GG bw zD2 (by show U+s'≤137438953472;omega) (by omega)) (ahf GG _) (R3 GG bw.gW zD2 (by show U+s'≤137438953472;omega) (by omega))
  rw [ahe GG,RZ hD hl,←ha]at hSu
  have er:iG (r.map (· * lead y)) (gW (List.replicate k 0++bA y (lead r)))=w5 y (lead y) (lead r) k r:=Cn.ext (Cn.iG _ _) (Cn.fM _ _) fun t=>by
   rw [rG,eA,B8,dZ,qB,cV,w5,iZ,cV,dG,nY,List.length_replicate];grind
  have br2:Bd 2 (U+d) N (w5 y (lead y) (lead r) k r):=by
   rw [←er]
   exact(Bd.iG (by decide) brl bw.gW).mono (by omega) (by omega)
  rw [er]at hSu
  have ew:qd (List.replicate k 0++bA y (lead r)) (D*lead y)=List.replicate k 0++qd (bA y (lead r)) (D*lead y):=by
   simp only [qd,List.map_append,List.map_replicate,vX GG]
  rw [ew]at hSu
  have lb:(qd (bA y (lead r)) (D*lead y)).length≤N:=by have:=bsc.len;simpa using this
  have acV:(qd Q D).set k (dM (lead r) (D*lead y))=qd ((Q.map (· * lead y)).set k (lead r)) (D*lead y):=by
   rw [←RZ hD hl Q,qd,qd,List.map_set]
  have hQl:(qd Q D).length=i:=by simpa using hQ
  refine W.skip ?_
  refine W.block ?_
  generalize hz:qd Q D=z at *
  generalize qd (bA y (lead r)) (D*lead y)=b at *
  generalize hcc:dM (lead r) (D*lead y)=c at *
  generalize D6:dM (lead r) D=p at *
  generalize hlq:(lead y:Rat)=lq at *
  generalize ha2:qd (w5 y (lead y) (lead r) k r) (D*lead y)=a2 at *
  refine W.sr ?_
  simp (disch:=omega) [gw,la,lyq,hkI]
  refine bG [0,1,6,8] ?_
  have aEe:0<r.length:=by omega
  have e1:((r.length:Int)-1).toNat=r.length-1:=by omega
  have e2:((y.length:Int)-1).toNat=y.length-1:=by omega
  refine W.sd ?_
  simp (disch:=omega) [gw,la,lyq,e1,e2,hp,O4]
  refine cU at1 ?_
  rw [if_pos (by kernel_rfl)]
  simp (disch:=omega) [gw]
  refine bG [0,1,6,8,9] ?_
  have hkl:k<z.length:=by omega
  refine W.sr ?_
  simp (disch:=omega) [gw,hr,hkl]
  refine bG [0,1,6,8,9] ?_
  refine aA [0,1,6,8,9,10] ?_
  refine aP [0,1,6,8,9,10,60,61] ?_
  refine W.block ?_
  refine W.bE (fun m σ=>∃(j v9 v10 v6:Nat) (els:List (List PV)) (rows:Pm.Rows) (clk:Nat),σ=⟨fa [(0,PP a),(1,PP yq),(6, .own 19 v6 0 i),(9, .ptr 9 v9 0 0),(10, .own 58 v10 0 k),(60, .int .i64 k),(61, .int .i64 j)],rows,clk⟩ ∧
   rows 19=some ⟨v6,31,4,emap re (z.set k c)⟩∧rows 9=some ⟨v9,31,4,[[aN aI (aU DD c.num.natAbs), .bool (decide (c.num<0)),aN aI (aU DD c.den), .bool false]]⟩ ∧
   rows 58=some ⟨v10,31,4,els⟩∧els.length=k∧(∀e∈els,e.length=4)∧els.take j=emap ri (List.replicate j 0)∧m=k-j∧j≤k) k ?_ ?_
  ·exact⟨_,aB _ [0,1,6,9,10,60,61],0,_,_,_,List.replicate k [.nil, .bool false, .nil, .bool false],_,_,rfl,by simp [hr],by simp,by simp,by simp,by simp,by simp [emap],by omega,by omega⟩
  clear hr rows clk v6
  rintro m _ ⟨j,v9,v10,v6,els,rows,clk,rfl,hr,hr9,M9,mR,MU,qG,hm,hj⟩
  have X6:bH 4 els=True:=by simp only [bH,eq_iff_iff,iff_true];exact MU
  refine bV [0,1,6,9,10,60,61,62] ?_
  refine bJ ?_ ?_<;>intro h
  ·have h:j<k:=by simp at h;omega
   refine kY ?_
   refine aA [0,1,6,9,10,11,60,61] ?_
   refine W.cA (fun K hK=>?_)
   simp (disch:=omega) [gw]
   refine aC sK ?_
   have uC:j<els.length:=by omega
   have hE:tM els j 4=True:=by
    simp only [eq_iff_iff,iff_true]
    exact⟨els[j],List.getElem?_eq_getElem uC,by rw [MU _ (List.getElem_mem uC)];omega⟩
   have hS:gZ els j 0 [aN aI (aU DD 0), .bool false,aN aI (aU DD 1), .bool false]=els.set j (ri 0):=by
    have h4:=MU _ (List.getElem_mem uC)
    rw [gZ,List.getElem?_eq_getElem uC]
    simp [List.drop_of_length_le,h4]
   simp (disch:=omega) [gw,M9,hE,hS]
   refine W.lw [0,1,6,9,10,60,61] hK ?_;clear hK K;simp
   refine W.cA (fun K hK=>?_);simp (disch:=omega) [gw]
   refine hK _ ⟨k-(j+1),_,aB _ [0,1,6,9,10,60,61],by omega,j+1,v9,v10,v6,els.set j (ri 0),_,_,rfl,by simp [hr],by simp [hr9],by simp,by simpa using mR,fun e he=>?_,?_,by omega,by omega⟩
   ·rcases List.mem_or_eq_of_mem_set he with h1 | h1
    ·exact MU e h1
    ·rw [h1];rfl
   ·rw [l5 qG (by omega),List.replicate_succ']
    simp [emap]
  have h:j=k:=by simp at h;omega
  subst h
  have nT:els=emap re (List.replicate j 0):=by
   have h1:emap ri (List.replicate j 0)=emap re (List.replicate j 0):=by simp [emap,iH]
   rw [←h1,←qG,bM mR]
  subst nT
  clear qG MU mR X6
  refine fH ?_
  refine W.LY (fun K hK=>?_)
  rw [if_pos rfl,fR]
  have hsl:((List.take r.length a).drop 0)=a:=by rw [List.drop_zero,List.take_of_length_le (by omega)]
  simp (disch:=omega) [gw,la,lyq,hr9,HY,hsl]
  refine aC hSc ?_
  have wZ:List.take (j+b.length) (List.replicate j 0++b)=List.replicate j 0++b:=List.take_of_length_le (by simp)
  simp (disch:=omega) [gw,M9,wZ]
  refine cU hSu ?_
  subst ha2
  have bS:rows 19=some ⟨v6,31,4,emap re (qd ((Q.map (· * lead y)).set j (lead r)) (D*lead y))⟩:=by rw [hr,acV]
  refine hK _ ⟨n,_,aB _ [0,1,6],by omega,(Q.map (· * lead y)).set j (lead r),w5 y (lead y) (lead r) j r,D*lead y,v6,_,_,rfl,by simp [bS],by simpa using hQ,hI2,by omega,by omega,hd,?_,?_⟩
  ·rw [hT];exact br2
  ·rw [hT];exact Nat.le_trans zD2 (by omega)
 ·have h:r.length<y.length:=by simp at h;omega
  rw [ahg h]at hd
  subst hd
  refine fH ?_
  have hcq:=vU (qd Q D) (by simp;omega)
  rw [vY hD]at hcq
  have hQl:(qd Q D).length=i:=by simpa using hQ
  have tZ:=bM hQl
  rw [←ha]
  generalize qd Q D=z at *
  generalize qd (aQ Q) D=z2 at *
  refine W.sr ?_
  simp (disch:=omega) [gw,hr,tZ]
  refine cQ [4,5] hcq ?_
  exact cC
theorem NJ{x y:List Int}(cy:Cn y)(hy:0<y.length):∀(j:Nat),j≤x.length→exs y j (List.replicate j 0++x.drop j) (bQ (aQ (x.take j)) y)=some (x,[])
 | 0,_=>by
  have:bQ (aQ (x.take 0)) y = []:=Cn.ext (Cn.bQ _ _) Cn.nil fun t=>by rw [dG,c8];simp [V]
  rw [exs,this];rfl
 | j+1,h=>by
  have ih:=NJ (x:=x) cy hy j (by omega)
  have hly:=dA cy hy
  have ht:=bF (l:=x) (i:=j) (by omega)
  have hdr:x.drop j=nth x j::x.drop (j+1):=by
   rw [List.drop_eq_getElem_cons (l:=x) (i:=j) (by omega),show nth x j=x[j]from cB (by omega)]
  rw [exs]
  by_cases hv:nth x j=0
  ·have hw:aQ (x.take (j+1))=aQ (x.take j):=by rw [ht,hv,jW]
   rw [hw]
   have h1:=rI (x:=aQ (x.take j)) hy
   have h2:=bX (x.take j)
   rw [List.length_take]at h2
   rw [if_pos (by omega),←ih]
   rw [hdr,hv,List.replicate_succ',List.append_assoc];rfl
  ·have hw:aQ (x.take (j+1))=x.take j ++ [nth x j]:=by rw [ht];exact jH hv _
   have cw:Cn (x.take j ++ [nth x j]):=jH hv _
   have hwl:(x.take j ++ [nth x j]).length=j+1:=by simp;omega
   have hlw:lead (x.take j ++ [nth x j])=nth x j:=by
    rw [lead,hwl,Nat.add_sub_cancel,cB (by omega)]
    have:(x.take j).length=j:=by simp;omega
    simp [List.getElem_append_right,this]
   rw [hw]
   have hl:=j0 cw cy (by omega) hy
   have hd:=xH cw cy (by omega) hy
   rw [hwl]at hl
   rw [hlw]at hd
   rw [if_neg (by omega),hd,if_pos (Int.mul_emod_left _ _),Int.mul_ediv_cancel _ hly]
   have e1:fM (bQ (x.take j ++ [nth x j]) y) (bQ (qF j (nth x j)) y)=bQ (aQ (x.take j)) y:=Cn.ext (Cn.fM _ _) (Cn.bQ _ _) fun t=>by
    rw [iZ,dG,dG,dG,c8,dZ,nV,nY,show(x.take j).length=j by simp;omega]
    grind
   have e2:(List.replicate (j+1) 0++x.drop (j+1)).set j (nth x j)=List.replicate j 0++x.drop j:=by
    rw [hdr,List.replicate_succ',List.append_assoc,List.set_append_right _ _ (by simp)]
    simp
   rw [e1,e2]
   exact ih
theorem R7{x y:List Int}(cx:Cn x)(cy:Cn y)(hy:0<y.length):exact (bQ x y) y=some x:=by
 have hk:jP (bQ x y) y=x.length:=by
  rcases Nat.eq_zero_or_pos x.length with h | h
  ·have:x = []:=List.eq_nil_of_length_eq_zero h
   have e:bQ x y = []:=Cn.ext (Cn.bQ _ _) Cn.nil fun t=>by rw [dG,this];simp [V]
   rw [e,this];simp [jP];omega
  ·have:=j0 cx cy h hy
   unfold jP;omega
 have h1:=NJ (x:=x) cy hy x.length (Nat.le_refl _)
 rw [List.take_length,show aQ x=x from cx,List.drop_length,List.append_nil]at h1
 rw [exact,hk,h1,exF,show aQ x=x from cx]
theorem I2{y h:List Int}(cy:Cn y)(hy:0<y.length)(e:∀t,V t y*V t h=0):aQ h = []:=by
 by_cases hh:aQ h = []
 ·exact hh
 ·exfalso
  have h1:bQ y (aQ h) = []:=Cn.ext (Cn.bQ _ _) Cn.nil fun t=>by rw [dG,c8,e];rfl
  have h2:=j0 cy (Cn.cut h) hy (List.length_pos_iff.2 hh)
  rw [h1]at h2
  have:=List.length_pos_iff.2 hh
  simp at h2;omega
theorem NK{a b:List Int}(h:aQ (fM a b) = [])(t:Int):V t a=V t b:=by
 have h1:=iZ (t:=t) a b
 rw [←c8,h]at h1
 have:V t ([]:List Int)=0:=rfl
 omega
theorem ZB{D:Int}(h:D≠0)(x:List Int):qd (x.map (· * D)) D=qs x:=by
 have:=RZ (D:=1) (l:=D) (by decide) h x
 rw [Int.one_mul,IX]at this
 exact this
theorem adg{x y q:List Int}(cx:Cn x)(cy:Cn y)(hy:0<y.length)(cq:Cn q)(h:∀t,V t x=V t q*V t y):qd (aQ (dmd x y).Q) (dmd x y).D=qs q∧(dmd x y).r = []:=by
 obtain⟨hI,hr⟩:=ahh cx cy hy
 generalize dmd x y=σ at *
 have hv:=hI.v
 have e:∀t,V t σ.r=V t y*V t (fM (q.map (· * σ.D)) σ.Q):=fun t=>by
  have h1:=hv t
  rw [h]at h1
  rw [iZ,eA]
  grind
 have h1:=FV hI.c cy hy e hr
 have h2:aQ (fM (q.map (· * σ.D)) σ.Q) = []:=I2 cy hy fun t=>by rw [←e,h1];rfl
 have e2:aQ σ.Q=q.map (· * σ.D):=Cn.ext (Cn.cut _) (lJ cq hI.d) fun t=>by rw [c8];exact(NK h2 t).symm
 rw [e2]
 exact⟨ZB hI.d q,h1⟩
end Go.Proofs.YtiobceocpabjdaaGreat
namespace Pm
structure ZX where
 l:List Int
 c:Cn l
namespace ZX
theorem ext{x y:ZX}(h:∀t,V t x.l=V t y.l):x=y:=by
 obtain⟨x,hx⟩:=x
 obtain⟨y,hy⟩:=y
 have:=Cn.ext hx hy h
 subst this
 rfl
def of(x:List Int):ZX:=⟨aQ x,Cn.cut x⟩
def K(c:Int):ZX:=of [c]
instance:Zero ZX:=⟨⟨[],Cn.nil⟩⟩
instance:One ZX:=⟨K 1⟩
instance:Add ZX:=⟨fun x y=>⟨iG x.l y.l,Cn.iG _ _⟩⟩
instance:Mul ZX:=⟨fun x y=>⟨bQ x.l y.l,Cn.bQ _ _⟩⟩
instance:Neg ZX:=⟨fun x=>⟨gW x.l,Cn.gW _⟩⟩
instance:Sub ZX:=⟨fun x y=>⟨fM x.l y.l,Cn.fM _ _⟩⟩
def pow(x:ZX):Nat→ZX
 | 0=>1
 | n+1=>pow x n*x
instance:HPow ZX Nat ZX:=⟨pow⟩
instance:NatCast ZX:=⟨fun n=>K n⟩
instance (n:Nat):OfNat ZX n:=⟨K n⟩
instance:IntCast ZX:=⟨fun n=>K n⟩
instance:SMul Nat ZX:=⟨fun n x=>K n*x⟩
instance:SMul Int ZX:=⟨fun n x=>K n*x⟩
variable {t:Int}
theorem ZC(x:List Int):V t (of x).l=V t x:=c8 x
theorem wB(c:Int):V t (K c).l=c:=by rw [K,ZC];simp [V]
theorem uH:V t (0:ZX).l=0:=wB 0
theorem GI:V t (1:ZX).l=1:=wB 1
theorem mG(x y:ZX):V t (x+y).l=V t x.l+V t y.l:=rG _ _
theorem eD(x y:ZX):V t (x*y).l=V t x.l*V t y.l:=dG _ _
theorem GJ(x:ZX):V t (-x).l = -V t x.l:=B8 _
theorem at2(x y:ZX):V t (x-y).l=V t x.l-V t y.l:=iZ _ _
theorem U9(x:ZX):∀n:Nat,V t (x^n).l=V t x.l^n
 | 0=>by show V t (1:ZX).l=_;rw [GI,Int.pow_zero]
 | n+1=>by show V t ((x^n)*x).l=_;rw [eD,U9 x n,Int.pow_succ]
theorem VA(n:Nat):V t (OfNat.ofNat n:ZX).l=n:=wB n
theorem ajT(n:Int):V t (n:ZX).l=n:=wB n
theorem VB(n:Int)(x:ZX):V t (n • x).l=n*V t x.l:=by show V t (K n*x).l=_;rw [eD,wB]
instance:Lean.Grind.CommRing ZX where
 add_zero x:=ext fun t=>by rw [mG,uH];omega
 add_comm x y:=ext fun t=>by rw [mG,mG];omega
 add_assoc x y z:=ext fun t=>by simp only [mG];omega
 mul_assoc x y z:=ext fun t=>by simp only [eD];grind
 mul_one x:=ext fun t=>by rw [eD,GI];omega
 one_mul x:=ext fun t=>by rw [eD,GI];omega
 left_distrib x y z:=ext fun t=>by simp only [eD,mG];grind
 right_distrib x y z:=ext fun t=>by simp only [eD,mG];grind
 zero_mul x:=ext fun t=>by rw [eD,uH];omega
 mul_zero x:=ext fun t=>by rw [eD,uH];omega
 pow_zero x:=ext fun t=>by rw [U9,GI,Int.pow_zero]
 pow_succ x n:=ext fun t=>by rw [eD,U9,U9,Int.pow_succ]
 ofNat_succ n:=ext fun t=>by rw [mG,VA,VA,GI];omega
 ofNat_eq_natCast n:=rfl
 nsmul_eq_natCast_mul n x:=rfl
 neg_add_cancel x:=ext fun t=>by rw [mG,GJ,uH];omega
 sub_eq_add_neg x y:=ext fun t=>by rw [at2,mG,GJ];omega
 neg_zsmul n x:=ext fun t=>by rw [VB,GJ,VB];grind
 zsmul_natCast_eq_nsmul n x:=rfl
 intCast_ofNat n:=rfl
 intCast_neg n:=ext fun t=>by rw [ajT,GJ,ajT]
 mul_comm x y:=ext fun t=>by rw [eD,eD,Int.mul_comm]
def N(x:ZX):Nat:=x.l.length
theorem aE{x:ZX}:x≠0↔0<N x:=by
 constructor
 ·intro h
  rcases Nat.eq_zero_or_pos (N x)with h1 | h1
  ·exfalso
   apply h
   have:x.l = []:=List.eq_nil_of_length_eq_zero h1
   exact ext fun t=>by rw [this,uH];rfl
  ·exact h1
 ·rintro h rfl
  have:N (0:ZX)=0:=by decide
  omega
theorem acO:N (0:ZX)=0:=by decide
theorem k9{x y:ZX}(hx:x≠0)(hy:y≠0):N (x*y)=N x+N y-1:=j0 x.c y.c (aE.1 hx) (aE.1 hy)
theorem oK{x y:ZX}(hx:x≠0)(hy:y≠0):x*y≠0:=by
 rw [aE,k9 hx hy]
 have:=aE.1 hx
 have:=aE.1 hy
 omega
theorem rS{x y:ZX}(h:x*y=0):x=0∨y=0:=by
 by_cases hx:x=0
 ·exact .inl hx
 ·by_cases hy:y=0
  ·exact .inr hy
  ·exact absurd h (oK hx hy)
theorem ZD(x y:ZX):x*y=y*x:=by grind
theorem cancel{x y z:ZX}(hz:z≠0)(h:z*x=z*y):x=y:=by
 have h1:z*(x-y)=0:=by grind
 rcases rS h1 with h2 | h2
 ·exact absurd h2 hz
 ·grind
theorem pB{c:Int}(h:c≠0):K c≠0:=fun e=>h (by
 have:=wB (t:=0) c
 rw [e,uH]at this;omega)
theorem N_K{c:Int}(h:c≠0):N (K c)=1:=by
 show(aQ [c]).length=1
 rw [show aQ [c] = [c]from jH h []];rfl
theorem pC(c d:Int):K c*K d=K (c*d):=ext fun t=>by rw [eD,wB,wB,wB]
theorem lA{x:ZX}(h:N x=1):∃c,c≠0∧x=K c:=by
 obtain⟨l,hl⟩:=x
 match l,hl,h with
 | [c],hl,_ =>
  have hc:c≠0:=by
   have:=dA hl (by simp)
   simpa [lead,sG]using this
  exact⟨c,hc,ext fun t=>by rw [wB];simp [V]⟩
theorem mN{c:Int}{x y q:ZX}(hc:c≠0)(hx:x≠0)(h:K c*x=q*y):q≠0∧y≠0:=by
 have h1:=oK (pB hc) hx
 rw [h]at h1
 constructor
 ·rintro rfl;apply h1;grind
 ·rintro rfl;apply h1;grind
theorem xP:(1:ZX)≠0:=pB (by decide)
theorem GK:N (1:ZX)=1:=N_K (by decide)
def dv(y x:ZX):Prop:=∃c:Int,c≠0 ∧ ∃q,K c*x=q*y
theorem dv.refl(x:ZX):dv x x:=⟨1,by decide,K 1,rfl⟩
theorem dv.zero(x:ZX):dv x 0:=⟨1,by decide,0,by grind⟩
theorem dv.trans{x y z:ZX}(h1:dv x y)(h2:dv y z):dv x z:=by
 obtain⟨c,hc,q,h1⟩:=h1
 obtain⟨d,hd,r,h2⟩:=h2
 exact⟨c*d,Int.mul_ne_zero hc hd,q*r,by rw [←pC];grind⟩
theorem dv.mul_right{x y:ZX}(h:dv x y)(z:ZX):dv x (y*z):=by
 obtain⟨c,hc,q,h⟩:=h
 exact⟨c,hc,q*z,by grind⟩
theorem dv.mul_left{x y:ZX}(h:dv x y)(z:ZX):dv x (z*y):=by
 obtain⟨c,hc,q,h⟩:=h
 exact⟨c,hc,q*z,by grind⟩
theorem dv.mul{x y z w:ZX}(h1:dv x y)(h2:dv z w):dv (x*z) (y*w):=by
 obtain⟨c,hc,q,h1⟩:=h1
 obtain⟨d,hd,r,h2⟩:=h2
 exact⟨c*d,Int.mul_ne_zero hc hd,q*r,by rw [←pC];grind⟩
theorem dv.add{x y z:ZX}(h1:dv x y)(h2:dv x z):dv x (y+z):=by
 obtain⟨c,hc,q,h1⟩:=h1
 obtain⟨d,hd,r,h2⟩:=h2
 exact⟨c*d,Int.mul_ne_zero hc hd,K d*q+K c*r,by rw [←pC];grind⟩
theorem dv.EX{x y:ZX}{c:Int}(hc:c≠0)(h:dv x (K c*y)):dv x y:=by
 obtain⟨d,hd,q,h⟩:=h
 exact⟨d*c,Int.mul_ne_zero hd hc,q,by rw [←pC];grind⟩
theorem dv.nD{x y:ZX}(h:dv x y)(hy:y≠0):N x≤N y:=by
 obtain⟨c,hc,q,h⟩:=h
 obtain⟨h1,h2⟩:=mN hc hy h
 have h3:N (K c*y)=N y:=by rw [k9 (pB hc) hy,N_K hc];have:=aE.1 hy;omega
 rw [h,k9 h1 h2]at h3
 have:=aE.1 h1
 omega
theorem dv.ne{x y:ZX}(h:dv x y)(hy:y≠0):x≠0:=by
 obtain⟨c,hc,q,h⟩:=h
 exact(mN hc hy h).2
theorem AD{x:ZX}(h:dv 0 x):x=0:=by
 obtain⟨c,hc,q,h⟩:=h
 have h2:K c*x=0:=by grind
 exact(rS h2).resolve_left (pB hc)
theorem at3{c:Int}(hc:c≠0)(x:ZX):dv (K c) x:=⟨c,hc,x,by grind⟩
theorem ahk{x y:ZX}(h:dv x y)(hy:y≠0)(hN:N x=N y):dv y x:=by
 obtain⟨c,hc,q,h⟩:=h
 obtain⟨h1,h2⟩:=mN hc hy h
 have h3:N (K c*y)=N y:=by rw [k9 (pB hc) hy,N_K hc];have:=aE.1 hy;omega
 rw [h,k9 h1 h2]at h3
 have h4:=aE.1 h1
 have h5:=aE.1 h2
 obtain⟨d,hd,rfl⟩:=lA (x:=q) (by omega)
 exact⟨d,hd,K c,by rw [h]⟩
theorem adh(a:ZX){b:ZX}(hb:b≠0):∃c:Int,c≠0 ∧ ∃q r,K c*a=q*b+r∧N r<N b:=by
 have h0:=aE.1 hb
 obtain⟨c1,c2⟩:=CB (b:=b.l) a.c
 refine⟨lead b.l^jP a.l b.l,Int.pow_ne_zero (dA b.c h0),⟨_,c1⟩,⟨_,c2⟩,ext fun t=>?_,?_⟩
 ·rw [eD,wB,mG,eD]
  exact(ace t a.l b.l).symm
 ·have:=IE (a:=a.l) h0
  show(yS a.l b.l).2.length<b.l.length
  have:0<b.l.length:=h0
  omega
structure qK(g a b:ZX):Prop where
 l:dv g a
 r:dv g b
 uv:∃c:Int,c≠0 ∧ ∃u v,K c*g=u*a+v*b
theorem qK.least{g a b d:ZX}(h:qK g a b)(ha:dv d a)(hb:dv d b):dv d g:=by
 obtain⟨c,hc,u,v,e⟩:=h.uv
 refine dv.EX hc ?_
 rw [e]
 exact(ha.mul_left u).add (hb.mul_left v)
theorem qK.ne{g a b:ZX}(h:qK g a b)(ha:a≠0∨b≠0):g≠0:=by
 rintro rfl
 rcases ha with h1 | h1
 ·exact h1 (AD h.l)
 ·exact h1 (AD h.r)
theorem qK.zero(a:ZX):qK a a 0:=⟨dv.refl a,dv.zero a,1,by decide,1,0,by show(1:ZX)*a=_;grind⟩
theorem qK.symm{g a b:ZX}(h:qK g a b):qK g b a:=by
 obtain⟨c,hc,u,v,e⟩:=h.uv
 exact⟨h.r,h.l,c,hc,v,u,by grind⟩
theorem qK.step{g a b q r:ZX}{c:Int}(hc:c≠0)(e:K c*a=q*b+r)(h:qK g b r):qK g a b:=by
 obtain⟨d,hd,u,v,e2⟩:=h.uv
 refine⟨dv.EX hc ?_,h.l,d,hd,v*K c,u-v*q,by grind⟩
 rw [e]
 exact(h.l.mul_left q).add h.r
theorem jR:∀(n:Nat) (a b:ZX),N b≤n → ∃g,qK g a b
 | 0,a,b,h=>by
  have:b=0:=Classical.byContradiction fun hb=>by have:=aE.1 hb;omega
  subst this
  exact⟨a,qK.zero a⟩
 | n+1,a,b,h=>by
  by_cases hb:b=0
  ·subst hb;exact⟨a,qK.zero a⟩
  ·obtain⟨c,hc,q,r,e,hr⟩:=adh a hb
   obtain⟨g,hg⟩:=jR n b r (by omega)
   exact⟨g,hg.step hc e⟩
structure oL(p:ZX):Prop where
 deg:2≤N p
 irr:∀d,dv d p→N d=1∨N d=N p
theorem oL.ne{p:ZX}(h:oL p):p≠0:=aE.2 (by have:=h.deg;omega)
theorem oL.ajU{p a b:ZX}(hp:oL p)(h:dv p (a*b)):dv p a∨dv p b:=by
 obtain⟨g,hg⟩:=jR _ p a (Nat.le_refl _)
 rcases hp.irr g hg.l with h1 | h1
 ·right
  obtain⟨k,hk,rfl⟩:=lA h1
  obtain⟨c,hc,u,v,e⟩:=hg.uv
  refine dv.EX (c:=c*k) (Int.mul_ne_zero hc hk) ?_
  have e2:K (c*k)*b=(u*b)*p+v*(a*b):=by rw [←pC];grind
  rw [e2]
  exact((dv.refl p).mul_left _).add (h.mul_left v)
 ·left
  exact(ahk hg.l hp.ne h1).trans hg.r
theorem nE:∀(n:Nat) (a:ZX),N a≤n→2≤N a → ∃p,oL p∧dv p a
 | 0,a,h,h2=>by omega
 | n+1,a,h,h2=>by
  by_cases hi:∃d,dv d a∧N d≠1∧N d≠N a
  ·obtain⟨d,hd,h3,h4⟩:=hi
   have h5:=hd.nD (aE.2 (by omega))
   have h6:=aE.1 (hd.ne (aE.2 (by omega)))
   obtain⟨p,hp,hpd⟩:=nE n d (by omega) (by omega)
   exact⟨p,hp,hpd.trans hd⟩
  ·refine⟨a,⟨h2,fun d hd=>?_⟩,dv.refl a⟩
   by_cases h3:N d=1
   ·exact .inl h3
   ·by_cases h4:N d=N a
    ·exact .inr h4
    ·exact absurd ⟨d,hd,h3,h4⟩ hi
theorem pow_succ'(p:ZX)(k:Nat):p^(k+1)=p^k*p:=rfl
theorem eK(p:ZX):p^0=1:=rfl
theorem pow_add'(p:ZX)(j:Nat):∀k,p^(j+k)=p^j*p^k
 | 0=>by rw [Nat.add_zero,eK];grind
 | k+1=>by rw [←Nat.add_assoc,pow_succ',pow_succ',pow_add' p j k];grind
theorem I3{p:ZX}(hp:p≠0):∀k:Nat,p^k≠0
 | 0=>xP
 | k+1=>oK (I3 hp k) hp
theorem adi{p:ZX}(hp:oL p):∀k:Nat,k<N (p^k)
 | 0=>by rw [eK,GK];omega
 | k+1=>by
  rw [pow_succ',k9 (I3 hp.ne k) hp.ne]
  have:=adi hp k
  have:=hp.deg
  omega
theorem adj{p:ZX}{j k:Nat}(h:j≤k):dv (p^j) (p^k):=by
 obtain⟨d,rfl⟩:=Nat.exists_eq_add_of_le h
 rw [pow_add']
 exact(dv.refl _).mul_right _
theorem ZE{p a:ZX}(hp:oL p)(ha:a≠0):∃k,dv (p^k) a∧¬dv (p^(k+1)) a:=by
 have key:∀n,(∃k,k≤n∧dv (p^k) a∧¬dv (p^(k+1)) a)∨dv (p^(n+1)) a:=by
  intro n
  induction n with
  | zero =>
   by_cases h:dv (p^1) a
   ·exact .inr h
   ·exact .inl ⟨0,Nat.le_refl _,at3 (by decide) a,h⟩
  | succ n ih =>
   rcases ih with ⟨k,h1,h2⟩ | ih
   ·exact .inl ⟨k,by omega,h2⟩
   ·by_cases h:dv (p^(n+2)) a
    ·exact .inr h
    ·exact .inl ⟨n+1,Nat.le_refl _,ih,h⟩
 rcases key (N a)with ⟨k,_,h⟩ | h
 ·exact⟨k,h⟩
 ·have h1:=h.nD ha
  have h2:=adi hp (N a+1)
  omega
open Classical in
noncomputable def mu(p a:ZX):Nat:=if h:∃k,dv (p^k) a∧¬dv (p^(k+1)) a then h.choose else 0
theorem VC{p a:ZX}(hp:oL p)(ha:a≠0):dv (p^mu p a) a∧¬dv (p^(mu p a+1)) a:=by
 have h:=ZE hp ha
 unfold mu
 rw [dif_pos h]
 exact h.choose_spec
theorem jA{p a:ZX}(hp:oL p)(ha:a≠0){k:Nat}:k≤mu p a↔dv (p^k) a:=by
 obtain⟨h1,h2⟩:=VC hp ha
 constructor
 ·intro h;exact(adj h).trans h1
 ·intro h
  rcases Nat.lt_or_ge (mu p a) k with h3 | h3
  ·exact absurd ((adj h3).trans h) h2
  ·exact h3
theorem C7{p a:ZX}(hp:oL p)(ha:a≠0):∃c:Int,c≠0 ∧ ∃b,b≠0∧K c*a=b*p^mu p a∧¬dv p b:=by
 obtain⟨⟨c,hc,b,e⟩,h2⟩:=VC hp ha
 refine⟨c,hc,b,(mN hc ha e).1,e,fun h=>h2 (dv.EX hc ?_)⟩
 rw [e,pow_succ']
 have:=h.mul (dv.refl (p^mu p a))
 rw [show p^mu p a*p=p*p^mu p a by grind]
 exact this
theorem xQ{p a b:ZX}(hp:oL p)(ha:a≠0){c:Int}(hc:c≠0){k:Nat}(e:K c*a=b*p^k)(h:¬dv p b):mu p a=k:=by
 have h1:k≤mu p a:=(jA hp ha).2 ⟨c,hc,b,e⟩
 rcases Nat.lt_or_ge k (mu p a)with h2 | h2
 ·exfalso
  obtain⟨d,hd,r,e2⟩:=(jA hp ha).1 h2
  apply h
  refine⟨d,hd,K c*r,ZX.cancel (I3 hp.ne k) ?_⟩
  rw [pow_succ']at e2
  grind
 ·omega
theorem rT{p a b:ZX}(hp:oL p)(ha:a≠0)(hb:b≠0):mu p (a*b)=mu p a+mu p b:=by
 obtain⟨c,hc,x,_,e1,h1⟩:=C7 hp ha
 obtain⟨d,hd,y,_,e2,h2⟩:=C7 hp hb
 refine xQ (b:=x*y) hp (oK ha hb) (Int.mul_ne_zero hc hd) ?_ fun h=>?_
 ·rw [pow_add',←pC];grind
 ·rcases hp.ajU h with h3 | h3
  ·exact h1 h3
  ·exact h2 h3
theorem ZF{p:ZX}(hp:oL p){c:Int}(hc:c≠0):mu p (K c)=0:=by
 refine xQ (b:=K c) (c:=1) hp (pB hc) (by decide) (by rw [eK];show(1:ZX)*K c=_;grind) fun h=>?_
 have:=h.nD (pB hc)
 rw [N_K hc]at this
 have:=hp.deg
 omega
theorem VD{p a b:ZX}(hp:oL p)(hb:b≠0)(h:dv a b):mu p a≤mu p b:=(jA hp hb).2 (((jA hp (h.ne hb)).1 (Nat.le_refl _)).trans h)
theorem ajV{p a b q:ZX}(hp:oL p){c:Int}(hc:c≠0)(ha:a≠0)(e:K c*a=q*b):mu p a=mu p q+mu p b:=by
 obtain⟨h1,h2⟩:=mN hc ha e
 rw [←rT hp h1 h2,←e,rT hp (pB hc) ha,ZF hp hc];omega
theorem NL:∀(n:Nat) (a b:ZX),N a≤n→a≠0→b≠0→(∀p,oL p→mu p a≤mu p b)→dv a b
 | 0,a,b,hn,ha,_,_=>by have:=aE.1 ha;omega
 | n+1,a,b,hn,ha,hb,h=>by
  rcases Nat.lt_or_ge (N a) 2 with h1 | h1
  ·obtain⟨c,hc,rfl⟩:=lA (x:=a) (by have:=aE.1 ha;omega)
   exact at3 hc b
  ·obtain⟨p,hp,hpa⟩:=nE _ a (Nat.le_refl _) h1
   have h2:1≤mu p a:=(jA hp ha).2 (by rw [show p^1=p by rw [pow_succ',eK];grind];exact hpa)
   have h3:dv p b:=by
    have:=(jA hp hb).1 (Nat.le_trans h2 (h p hp))
    rwa [show p^1=p by rw [pow_succ',eK];grind]at this
   obtain⟨c,hc,a',ea⟩:=hpa
   obtain⟨d,hd,b',eb⟩:=h3
   obtain⟨KB,_⟩:=mN hc ha ea
   obtain⟨j8,_⟩:=mN hd hb eb
   have h4:N (K c*a)=N a:=by rw [k9 (pB hc) ha,N_K hc];have:=aE.1 ha;omega
   have h5:dv a' b':=NL n a' b' (by
    rw [ea,k9 KB hp.ne]at h4
    have:=hp.deg
    omega) KB j8 fun r hr=>by
    have h6:=h r hr
    rw [ajV hr hc ha ea,ajV hr hd hb eb]at h6
    omega
   refine dv.EX hd ?_
   rw [eb]
   have h7:=h5.mul (dv.refl p)
   rw [←ea]at h7
   obtain⟨e,he,q,e3⟩:=h7
   exact⟨e,he,q*K c,by grind⟩
theorem j2{a b:ZX}(ha:a≠0)(hb:b≠0):dv a b ↔ ∀p,oL p→mu p a≤mu p b:=⟨fun h p hp=>VD hp hb h,NL _ a b (Nat.le_refl _) ha hb⟩
theorem qK.mu{g a b p:ZX}(h:qK g a b)(ha:a≠0)(hb:b≠0)(hp:oL p):mu p g=min (ZX.mu p a) (ZX.mu p b):=by
 have hg:=h.ne (.inl ha)
 have h1:=VD hp ha h.l
 have h2:=VD hp hb h.r
 have h3:min (ZX.mu p a) (ZX.mu p b)≤ZX.mu p g:=(jA hp hg).2 (h.least ((jA hp ha).1 (Nat.min_le_left _ _)) ((jA hp hb).1 (Nat.min_le_right _ _)))
 omega
def xR(x:List Int):List Int:=(List.range (x.length-1)).map fun i=>nth x (i+1)*((i+1:Nat):Int)
def qI:Nat→List Int→List Int
 | _,[]=>[]
 | k,a::l=>a*(k:Int)::qI (k+1) l
def W(t:Int):List Int→Int
 | []=>0
 | _::l=>V t l+t*W t l
theorem VE:∀(l:List Int) (k:Nat),qI k l=(List.range l.length).map fun i=>nth l i*((k+i:Nat):Int)
 | [],k=>rfl
 | a::l,k=>by
  rw [qI,VE l (k+1),List.length_cons,List.range_succ_eq_map,List.map_cons,List.map_map]
  congr 1
  refine List.map_congr_left fun i _=>?_
  simp only [Function.comp_apply,j1]
  rw [show k+1+i=k+(i+1)by omega]
theorem GL(a:Int)(l:List Int):xR (a::l)=qI 1 l:=by
 rw [VE,xR,List.length_cons,Nat.add_sub_cancel]
 refine List.map_congr_left fun i _=>?_
 rw [j1,show i+1=1+i by omega]
theorem y9(t:Int):∀(l:List Int) (k:Nat),V t (qI (k+1) l)=V t (qI k l)+V t l
 | [],k=>by simp [qI,V]
 | a::l,k=>by
  simp only [qI,V]
  rw [y9 t l (k+1)]
  have:((k+1:Nat):Int)=(k:Int)+1:=by omega
  rw [this];grind
theorem C8(t:Int):∀l:List Int,V t (qI 1 l)=V t l+t*W t l
 | []=>by simp [qI,V,W]
 | b::m=>by
  rw [qI]
  simp only [V,W]
  rw [y9,C8 t m]
  rw [show((1:Nat):Int)=1 from rfl]
  grind
theorem anE(t:Int):∀x:List Int,V t (xR x)=W t x
 | []=>rfl
 | a::l=>by rw [GL,C8];rfl
def bT(x:ZX):ZX:=of (xR x.l)
theorem NM(x:ZX):V t (bT x).l=W t x.l:=by rw [bT,ZC,anE]
theorem I4(t h:Int):∀x:List Int,∃R:Int,V (t+h) x=V t x+h*W t x+h*h*R
 | []=>⟨0,by simp [V,W]⟩
 | a::l=>by
  obtain⟨R,hR⟩:=I4 t h l
  refine⟨W t l+(t+h)*R,?_⟩
  simp only [V,W]
  rw [hR];grind
theorem R8{t A:Int}{z:List Int}(hA:∀h,∃R:Int,V (t+h) z=V t z+h*A+h*h*R):W t z=A:=by
 have key:∀h:Int,h≠0→h∣W t z-A:=fun h hh=>by
  obtain⟨R,hR⟩:=hA h
  obtain⟨S,hS⟩:=I4 t h z
  refine⟨R-S,Int.eq_of_mul_eq_mul_left hh ?_⟩
  grind
 have h1:=key (((W t z-A).natAbs:Int)+1) (by omega)
 have h2:=Int.natAbs_dvd_natAbs.2 h1
 rcases Nat.eq_zero_or_pos (W t z-A).natAbs with h3 | h3
 ·omega
 ·have:=Nat.le_of_dvd h3 h2
  omega
theorem sM(x y:ZX):bT (x*y)=bT x*y+x*bT y:=ext fun t=>by
 rw [NM,mG,eD,eD,NM,NM]
 refine R8 fun h=>?_
 obtain⟨R,hR⟩:=I4 t h x.l
 obtain⟨S,hS⟩:=I4 t h y.l
 refine⟨V t x.l*S+R*V t y.l+W t x.l*W t y.l+h*(W t x.l*S+R*W t y.l)+h*h*R*S,?_⟩
 rw [eD,eD,hR,hS];grind
theorem ajW(c:Int):bT (K c)=0:=ext fun t=>by
 rw [NM,uH]
 refine R8 fun h=>⟨0,?_⟩
 rw [wB,wB];grind
theorem adk(c:Int)(x:ZX):bT (K c*x)=K c*bT x:=by rw [sM,ajW];grind
theorem VF:bT (1:ZX)=0:=ajW 1
theorem VG(p:ZX):∀m:Nat,bT (p^(m+1))=K ((m+1:Nat):Int)*p^m*bT p
 | 0=>by
  rw [pow_succ',sM,eK,VF]
  show _=(1:ZX)*1*bT p
  grind
 | m+1=>by
  rw [pow_succ',sM,VG p m]
  have:K ((m+1+1:Nat):Int)=K ((m+1:Nat):Int)+1:=ext fun t=>by rw [mG,wB,wB,GI];omega
  rw [this,pow_succ'];grind
theorem n5(a:ZX):N (bT a)≤N a-1:=Nat.le_trans (bX _) (by simp [xR,N])
theorem I5{a:ZX}(h:2≤N a):bT a≠0:=by
 have h1:a.l.length=N a:=rfl
 have hl:=dA a.c (by omega)
 intro h0
 have h2:nth (bT a).l (N a-2)=nth a.l (N a-1)*((N a-1:Nat):Int):=by
  show nth (aQ (xR a.l)) _=_
  rw [i6,xR,cB (by simp;omega)]
  simp only [List.getElem_map,List.getElem_range]
  rw [show N a-2+1=N a-1 by omega]
 rw [h0]at h2
 have h3:nth (0:ZX).l (N a-2)=0:=iF (by show(0:ZX).l.length≤_;exact Nat.zero_le _)
 rw [h3]at h2
 have h4:nth a.l (N a-1)=lead a.l:=by rw [lead,h1]
 rw [h4]at h2
 exact Int.mul_ne_zero hl (by omega) h2.symm
theorem oL.R9{p:ZX}(hp:oL p):¬dv p (bT p):=fun h=>by
 have h1:=h.nD (I5 hp.deg)
 have h2:=n5 p
 have:=hp.deg
 omega
theorem xS{p a:ZX}(hp:oL p)(ha:a≠0){m:Nat}(h:mu p a=m+1):bT a≠0∧mu p (bT a)=m:=by
 obtain⟨c,hc,b,hb,e,hn⟩:=C7 hp ha
 rw [h]at e
 have e2:K c*bT a=(bT b*p+K ((m+1:Nat):Int)*(b*bT p))*p^m:=by
  rw [←adk,e,sM,VG,pow_succ'];grind
 have K8:¬dv p (bT b*p+K ((m+1:Nat):Int)*(b*bT p)):=fun h1=>by
  have h2:dv p (K ((m+1:Nat):Int)*(b*bT p)):=by
   have h3:=h1.add ((dv.refl p).mul_left (-bT b))
   rwa [show bT b*p+K ((m+1:Nat):Int)*(b*bT p) + -bT b*p=K ((m+1:Nat):Int)*(b*bT p)by grind]at h3
  have h4:=dv.EX (by omega) h2
  rcases hp.ajU h4 with h5 | h5
  ·exact hn h5
  ·exact hp.R9 h5
 have h6:bT a≠0:=fun h0=>by
  rw [h0]at e2
  have h7:(bT b*p+K ((m+1:Nat):Int)*(b*bT p))*p^m=0:=by rw [←e2];grind
  rcases rS h7 with h8 | h8
  ·rw [h8]at K8;exact K8 (dv.zero p)
  ·exact I3 hp.ne m h8
 exact⟨h6,xQ hp h6 hc e2 K8⟩
theorem qK.xS{g a p:ZX}(h:qK g a (bT a))(ha:a≠0)(hp:oL p):ZX.mu p g=ZX.mu p a-1:=by
 rcases Nat.eq_zero_or_pos (ZX.mu p a)with h1 | h1
 ·have:=VD hp ha h.l
  omega
 ·obtain⟨m,hm⟩:∃m,ZX.mu p a=m+1:=⟨ZX.mu p a-1,by omega⟩
  obtain⟨h2,h3⟩:=ZX.xS hp ha hm
  rw [h.mu ha h2 hp,h3,hm];omega
theorem I6{p:ZX}(hp:oL p):mu p 1=0:=ZF hp (by decide)
theorem qK.at4{g a b q r:ZX}{c k:Int}(hc:c≠0)(hk:k≠0)(e:K c*a=q*b+K k*r)(h:qK g b r):qK g a b:=by
 obtain⟨d,hd,u,v,e2⟩:=h.uv
 refine⟨dv.EX hc ?_,h.l,k*d,Int.mul_ne_zero hk hd,v*K c,K k*u-v*q,by rw [←pC];grind⟩
 rw [e]
 exact(h.l.mul_left q).add (h.r.mul_left _)
theorem qK.assoc{g g' a b:ZX}(h:qK g a b)(h':qK g' a b):dv g g'∧dv g' g:=⟨h'.least h.l h.r,h.least h'.l h'.r⟩
theorem qK.congr{g a b a' b':ZX}(h:qK g a b)(h1:dv a a')(h2:dv a' a)(h3:dv b b')(h4:dv b' b):qK g a' b':=by
 obtain⟨g',hg'⟩:=jR _ a' b' (Nat.le_refl _)
 obtain⟨c,hc,u,v,e⟩:=hg'.uv
 have h5:dv g g':=hg'.least (h.l.trans h1) (h.r.trans h3)
 have h6:dv g' g:=h.least (hg'.l.trans h2) (hg'.r.trans h4)
 obtain⟨d,hd,w,e2⟩:=h6
 refine⟨h.l.trans h1,h.r.trans h3,c*d,Int.mul_ne_zero hc hd,w*u,w*v,by rw [←pC];grind⟩
end ZX
theorem NN{H t:Nat}:∀ {x:List Int},(∀c∈x,c.natAbs≤H)→(V (t:Int) x).natAbs≤H*(1+t)^x.length
 | [],_=>by simp [V]
 | a::l,h=>by
  have h1:=NN (t:=t) (x:=l) fun c hc=>h c (by simp [hc])
  have h2:=h a (by simp)
  simp only [V]
  have h3:(a+(t:Int)*V t l).natAbs≤a.natAbs+t*(V (t:Int) l).natAbs:=by
   have:=Int.natAbs_add_le a ((t:Int)*V t l)
   rwa [Int.natAbs_mul,Int.natAbs_natCast]at this
  have h4:t*(V (t:Int) l).natAbs≤t*(H*(1+t)^l.length):=Nat.mul_le_mul_left _ h1
  have h5:H*1≤H*(1+t)^l.length:=Nat.mul_le_mul_left _ (Nat.one_le_pow _ _ (by omega))
  rw [List.length_cons,Nat.pow_succ]
  have h6:H*((1+t)^l.length*(1+t))=H*(1+t)^l.length+t*(H*(1+t)^l.length):=by grind
  omega
def ZG(s:Int):List Int→List Int
 | []=>[]
 | _::l=>V s l::ZG s l
theorem ajX(s t:Int):∀x:List Int,V t x=V s x+(t-s)*V t (ZG s x)
 | []=>by simp [V,ZG]
 | a::l=>by
  have:=ajX s t l
  simp only [V,ZG]
  have h2:t*V t l=t*(V s l+(t-s)*V t (ZG s l)):=by rw [←this]
  grind
theorem NO(s:Int):∀x:List Int,x ≠ [] → ∃y,ZG s x=y ++ [0]∧y.length=x.length-1
 | [],h=>absurd rfl h
 | [a],_=>⟨[],by simp [ZG,V],rfl⟩
 | a::b::l,_=>by
  obtain⟨y,h1,h2⟩:=NO s (b::l) (by simp)
  refine⟨V s (b::l)::y,by rw [ZG,h1];rfl,by simp at h2 ⊢;omega⟩
theorem C9{s:Nat}{M:Nat}:∀ {x:List Int},(V (s:Int) x).natAbs≤M→(∀c∈ZG s x,c.natAbs≤M) → ∀c∈x,c.natAbs≤M*(1+s)
 | [],_,_,c,hc=>by cases hc
 | a::l,h0,h,c,hc=>by
  have h1:(V (s:Int) l).natAbs≤M:=h _ (by simp [ZG])
  have h2:∀c∈ZG s l,c.natAbs≤M:=fun c hc=>h c (by simp [ZG,hc])
  rcases List.mem_cons.1 hc with rfl | hc
  ·simp only [V]at h0
   have h3:c.natAbs≤(c+(s:Int)*V s l).natAbs+s*(V (s:Int) l).natAbs:=by
    have h4:c=(c+(s:Int)*V s l)+(-((s:Int)*V s l)):=by omega
    have h5:=Int.natAbs_add_le (c+(s:Int)*V s l) (-((s:Int)*V s l))
    rw [←h4,Int.natAbs_neg,Int.natAbs_mul,Int.natAbs_natCast]at h5
    exact h5
   have h4:s*(V (s:Int) l).natAbs≤s*M:=Nat.mul_le_mul_left _ h1
   rw [Nat.mul_add,Nat.mul_one,Nat.mul_comm M s];omega
  ·exact C9 h1 h2 c hc
theorem I7(K:Nat):∀(P:List Nat) (A:Nat) (x:List Int),P.Nodup→(∀p∈P,p≤K)→x.length≤P.length→(∀p∈P,(V (p:Int) x).natAbs≤A) → ∀c∈x,c.natAbs≤A*(2*(K+1))^P.length
 | [],A,x,_,_,hl,_,c,hc=>by
  have:x = []:=List.eq_nil_of_length_eq_zero (by simpa using hl)
  rw [this]at hc;cases hc
 | s::P,A,x,hd,hK,hl,hv,c,hc=>by
  have hx:x ≠ []:=fun h=>by rw [h]at hc;cases hc
  have h0:=hv s (List.mem_cons_self ..)
  obtain⟨hs,hd⟩:=List.nodup_cons.1 hd
  obtain⟨y,h1,h2⟩:=NO s x hx
  have hy:∀t:Int,V t (ZG s x)=V t y:=fun t=>by rw [h1,dZ];simp [V]
  have h3:∀p∈P,(V (p:Int) y).natAbs≤2*A:=fun p hp=>by
   have h4:=ajX s (p:Int) x
   rw [hy]at h4
   have h5:=hv p (List.mem_cons_of_mem _ hp)
   have nJ:p≠s:=fun h=>hs (h▸hp)
   have h6:(((p:Int)-s)*V (p:Int) y).natAbs≤2*A:=by
    have:((p:Int)-s)*V (p:Int) y=V (p:Int) x-V (s:Int) x:=by omega
    rw [this]
    omega
   rw [Int.natAbs_mul]at h6
   exact Nat.le_trans (Nat.le_mul_of_pos_left _ (by omega)) h6
  rw [List.length_cons]at hl ⊢
  have h4:=I7 K P (2*A) y hd (fun p hp=>hK p (List.mem_cons_of_mem _ hp)) (by omega) h3
  have hP:1≤(2*(K+1))^P.length:=Nat.one_le_pow _ _ (by omega)
  have h5:=C9 (s:=s) (M:=2*A*(2*(K+1))^P.length) (x:=x) (by
   have:A*1≤2*A*(2*(K+1))^P.length:=Nat.mul_le_mul (by omega) hP
   omega) (fun d hd=>by
   rw [h1]at hd
   rcases List.mem_append.1 hd with hd | hd
   ·exact h4 d hd
   ·simp at hd;subst hd;simp) c hc
  refine Nat.le_trans h5 ?_
  rw [Nat.pow_succ]
  have h6:A*((2*(K+1))^P.length*(2*(K+1)))=(2*A*(2*(K+1))^P.length)*(K+1):=by grind
  rw [h6]
  exact Nat.mul_le_mul_left _ (by have:=hK s (List.mem_cons_self ..);omega)
theorem DA{α:Type}(p:α→Bool):∀l:List α,(l.filter p).length+(l.filter fun x => !p x).length=l.length
 | []=>rfl
 | a::l=>by
  have:=DA p l
  cases h:p a<;>simp [h]<;>omega
theorem ahm{x:List Int}(hx:aQ x ≠ []){n:Nat}(hl:x.length≤n):∃P:List Nat,P.Nodup∧(∀p∈P,p≤2*n-1)∧P.length=n ∧ ∀p∈P,V (p:Int) x≠0:=by
 have h1:=DA (fun p:Nat=>decide (V (p:Int) x=0)) (List.range (2*n))
 have h2:((List.range (2*n)).filter fun p:Nat=>decide (V (p:Int) x=0)).length<n:=Nat.not_le.1 fun h=>hx (by
  have h3:=I7 (2*n) ((List.range (2*n)).filter fun p:Nat=>decide (V (p:Int) x=0)) 0 x (List.nodup_range.filter _) (fun p hp=>by have:=List.mem_range.1 (List.mem_filter.1 hp).1;omega) (by omega) (fun p hp=>by have:=of_decide_eq_true (List.mem_filter.1 hp).2;rw [this];decide)
  have h4:∀l:List Int,(∀c∈l,c.natAbs≤0*(2*(2*n+1))^((List.range (2*n)).filter fun p:Nat=>decide (V (p:Int) x=0)).length)→aQ l = []:=fun l=>by
   induction l with
   | nil=>intro _;rfl
   | cons a l ih =>
    intro h
    have h5:=h a (List.mem_cons_self ..)
    rw [Nat.zero_mul]at h5
    rw [aQ,ih fun c hc=>h c (List.mem_cons_of_mem _ hc),if_pos ⟨rfl,by omega⟩]
  exact h4 x h3)
 rw [List.length_range]at h1
 have h3:n≤((List.range (2*n)).filter fun p:Nat => !decide (V (p:Int) x=0)).length:=by omega
 refine⟨((List.range (2*n)).filter fun p:Nat => !decide (V (p:Int) x=0)).take n,(List.take_sublist _ _).nodup (List.nodup_range.filter _),fun p hp=>?_,by rw [List.length_take];omega,fun p hp=>?_⟩
 ·have:=List.mem_range.1 (List.mem_filter.1 (List.mem_of_mem_take hp)).1;omega
 ·have:=(List.mem_filter.1 (List.mem_of_mem_take hp)).2
  simpa using this
namespace ZX
theorem adl{a w g:ZX}{h n l:Nat}(ha:a≠0)(e:a=w*g)(hH:∀d∈a.l,d.natAbs≤2^h)(hN:N a≤n)(hn:n≤2^l):∀c∈g.l,c.natAbs≤2^(h+n*(2*l+3)):=by
 intro c hc
 have hw:w≠0∧g≠0:=⟨fun h0=>ha (by rw [e,h0];grind),fun h0=>ha (by rw [e,h0];grind)⟩
 have hlen:g.l.length≤n:=by
  have h1:N a=N w+N g-1:=by rw [e,k9 hw.1 hw.2]
  have h2:=aE.1 hw.1
  show N g≤n
  omega
 have hn0:1≤n:=by have:=aE.1 ha;omega
 obtain⟨P,p1,p2,p3,p4⟩:=ahm (x:=a.l) (n:=n) (by
  rw [show aQ a.l=a.l from a.c]
  have:=aE.1 ha
  intro h0
  have h3:N a=a.l.length:=rfl
  rw [h3,h0]at this;simp at this) hN
 have hv:∀p∈P,(V (p:Int) g.l).natAbs≤2^h*(2^(l+1))^n:=fun p hp=>by
  have h1:V (p:Int) a.l=V (p:Int) w.l*V (p:Int) g.l:=by
   conv=>lhs;rw [e]
   rw [eD]
  have h2:=p4 p hp
  have h3:(V (p:Int) g.l).natAbs≤(V (p:Int) a.l).natAbs:=by
   rw [h1,Int.natAbs_mul]
   have:V (p:Int) w.l≠0:=fun h0=>h2 (by rw [h1,h0,Int.zero_mul])
   exact Nat.le_mul_of_pos_left _ (by omega)
  refine Nat.le_trans h3 (Nat.le_trans (NN hH) (Nat.mul_le_mul_left _ ?_))
  have h4:1+p≤2^(l+1):=by have:=p2 p hp;rw [Nat.pow_succ];omega
  exact Nat.le_trans (Nat.pow_le_pow_left h4 _) (Nat.pow_le_pow_right (Nat.two_pow_pos _) hN)
 have h5:=I7 (2*n-1) P _ g.l p1 p2 (by omega) hv c hc
 refine Nat.le_trans h5 ?_
 rw [p3]
 have h7:2*(2*n-1+1)≤2^(l+2):=by rw [Nat.pow_add];omega
 have h8:(2*(2*n-1+1))^n≤(2^(l+2))^n:=Nat.pow_le_pow_left h7 _
 refine Nat.le_trans (Nat.mul_le_mul_left _ h8) (Nat.le_of_eq ?_)
 rw [←Nat.pow_mul,←Nat.pow_mul,←Nat.pow_add,←Nat.pow_add]
 congr 1
 grind
theorem anF{a w g:ZX}{h n:Nat}(ha:a≠0)(e:a=w*g)(hb:Bd 2 h n a.l)(hn:n+1≤2^h):Bd 2 (h+n*(2*h+5)+1) n g.l:=by
 have hw:w≠0∧g≠0:=⟨fun h0=>ha (by rw [e,h0];grind),fun h0=>ha (by rw [e,h0];grind)⟩
 refine⟨?_,fun c hc=>?_⟩
 ·have h1:N a=N w+N g-1:=by rw [e,k9 hw.1 hw.2]
  have h2:=aE.1 hw.1
  have h3:N a≤n:=hb.len
  show N g≤n
  omega
 ·have h1:=adl (h:=h) (n:=n) (l:=h) ha e (fun d hd=>by
   have h1:=iS (b:=2) (by decide) d
   have h2:=vH (b:=2) (by decide) (hb.sz d hd)
   omega) hb.len (by omega) c hc
  refine dW (by decide) (Nat.lt_of_le_of_lt h1 (Nat.pow_lt_pow_right (by decide) ?_))
  have:n*(2*h+3)≤n*(2*h+5):=Nat.mul_le_mul_left _ (by omega)
  omega
end ZX
end Pm
