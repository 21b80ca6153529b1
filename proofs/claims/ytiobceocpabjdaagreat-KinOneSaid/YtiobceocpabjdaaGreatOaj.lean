import Derived.Test.YtiobceocpabjdaaGreatOae
import Derived.Test.YtiobceocpabjdaaGreatOah
import Derived.Test.YtiobceocpabjdaaGreatOai
set_option linter.unusedSimpArgs false
set_option linter.unusedVariables false
namespace Go.Proofs.YtiobceocpabjdaaGreat
open Go Pm
def WE.new(s:CE):WE:=⟨s.t,s.p,s.w,false,false,A9.no⟩
def wek(z:Bool)(w:WE):List PV:=[.int .i64 w.t.k, .int .i64 w.t.a, .int .i64 w.t.b, .int .i64 w.t.c, .int .i64 w.t.d,Po w.p, .int .i64 w.w, .bool w.k, .bool w.o,sc z w.f.y, .bool w.f.s,sc z w.f.d, .bool w.f.s',sc z w.f.d', .bool w.f.u,sc z w.f.e, .bool w.f.u',sc z w.f.e']
theorem JD(z:Bool)(w:WE):wek z w = [.int .i64 w.t.k, .int .i64 w.t.a, .int .i64 w.t.b, .int .i64 w.t.c, .int .i64 w.t.d,Po w.p, .int .i64 w.w, .bool w.k, .bool w.o,sc z w.f.y, .bool w.f.s,sc z w.f.d, .bool w.f.s',sc z w.f.d', .bool w.f.u,sc z w.f.e, .bool w.f.u',sc z w.f.e']:=rfl
theorem JE{b:Bool}{n t:A9}{z later:Bool}{L:List WE}{e:Int}{C S:List CE}{G:CE→WE}(hl:S.length<1000000)(hSz:∀s∈S,s.z=false)
  (hS:aE env.P 35 [aJ kV C] (aJ kV S)) (hL:aE env.P 112 [.sl [b9 t]] (.dU [.ag (b9 t), .bool true]))
  (hF:later=false → ∀s∈S,G s=WE.new s)
  (hT:later=true → ∀s∈S,∃y:Bool,(y=true→(G s).f=A9.no)∧g9 env.P 191 [.ag (kV s), .ag (b9 t)] 95 12 (co b n z L e) (co b n z L e) (.ag (wek y (G s)))) :
  g9 env.P 109 [.ag (b9 t), .bool later,aJ kV C] 95 12 (co b n z L e) (co true t false (S.map G) e) (.dU []):=by
 simp only [fG]at hL hT ⊢
 refine iK (E:=env) (fun _=>0) [(1, .ag [.sl t.y, .bool t.s, .sl t.d, .bool t.s', .sl t.d', .bool t.u, .sl t.e, .bool t.u', .sl t.e']),(2, .bool later),(3,aJ kV C)] Tryz.func109 rfl (by kernel_rfl) (by kernel_rfl) (show 4≤47 by decide) (by intro q;simp) ?_
 intro id ver jE adl eS
 have K4:=jM b n z L e
 refine aA [0,2,3,5] ?_
 refine aA [0,2,3,5,8] ?_
 refine W.nil 8 8 179 18 (by simp) (by decide) (fun K hK=>?_)
 refine W.lw [0,2,3,5,8] hK ?_;clear hK K;simp
 refine W.seq ?_
 refine W.eJ (fun σ=>∃(v5 v8:Nat) (rows:Pm.Rows) (clk:Nat),σ=⟨fa [(0, .ptr (id+1000000) ver 0 0),(2, .bool later),(5, .ptr 5 v5 0 0),(8, .own 8 v8 0 0),(13,aJ kV S),(14, .int .i64 S.length),(15, .int .i64 0)],rows,clk⟩∧rows 8=some ⟨v8,179,18,[]⟩∧rows 5=some ⟨v5,54,9,[[.sl t.y, .bool t.s, .sl t.d, .bool t.s', .sl t.d', .bool t.u, .sl t.e, .bool t.u', .sl t.e']]⟩∧rows (id+1000000)=some ⟨ver,95,12,[co b n z L e]⟩∧(∀j,j≠id→rows (j+1000000)=jE (j+1000000))) (fun K hK=>?_) ?_
 ·simp (disch:=omega) [gw,eS]
  refine cS hS ?_
  exact hK _ _ (aB _ [0,2,5,8,13,14,15]) ⟨_,_,_,_,rfl,by simp,by simp,by simp [eS],by intro j hj;simp⟩
 clear eS
 rintro _ ⟨v5,v8,rows,clk,rfl,nP,dM,eS,iE⟩
 refine W.block ?_
 refine W.bE (fun k σ=>∃(i v5 v8:Nat) (rows:Pm.Rows) (clk:Nat),σ=⟨fa [(0, .ptr (id+1000000) ver 0 0),(2, .bool later),(5, .ptr 5 v5 0 0),(8, .own 8 v8 0 i),(13,aJ kV S),(14, .int .i64 S.length),(15, .int .i64 i)],rows,clk⟩∧i+k=S.length∧rows 8=some ⟨v8,179,18,emap EO ((S.map G).take i)⟩∧rows 5=some ⟨v5,54,9,[[.sl t.y, .bool t.s, .sl t.d, .bool t.s', .sl t.d', .bool t.u, .sl t.e, .bool t.u', .sl t.e']]⟩∧rows (id+1000000)=some ⟨ver,95,12,[co b n z L e]⟩∧(∀j,j≠id→rows (j+1000000)=jE (j+1000000))) S.length ?_ ?_
 ·exact⟨_,aB _ [0,2,5,8,13,14,15],0,v5,v8,rows,clk,rfl,by omega,by simp [nP,emap],dM,eS,iE⟩
 clear nP dM eS iE rows clk v5 v8
 rintro k _ ⟨i,v5,v8,rows,clk,rfl,zH,nP,dM,eS,iE⟩
 refine bU [0,2,5,8,13,14,15,16] ?_
 refine bJ ?_ ?_<;>intro h
 ·have hi:i<S.length:=by simp at h;omega
  have hF':=fun h=>hF h _ (bN hi)
  have hT':=fun h=>hT h _ (bN hi)
  have hz':=hSz _ (bN hi)
  have kW:(S.map G).take (i+1)=(S.map G).take i ++ [G (nth S i)]:=by
   rw [List.take_succ_eq_append_getElem (by simpa using hi),bW hi];simp
  have hlen:((S.map G).take i).length=i:=by simp;omega
  generalize hU':(S.map G).take (i+1)=U' at *
  generalize (S.map G).take i=U at *
  generalize hw:nth S i=w at *
  generalize G w=g at *
  rw [iW,hz',ada]at hT'
  refine lF ?_
  refine W.sr ?_
  simp (disch:=omega) [gw,hi,hw,iW,hz',ada]
  refine bH [0,2,5,8,10,13,14,15] ?_
  refine aA [0,2,5,8,10,11,13,14,15] ?_
  refine W.iB (fun σ=>∃(v11:Nat) (y:Bool) (rows:Pm.Rows) (clk:Nat),σ=⟨fa [(0, .ptr (id+1000000) ver 0 0),(2, .bool later),(5, .ptr 5 v5 0 0),(8, .own 8 v8 0 i),(11, .ptr 11 v11 0 0),(13,aJ kV S),(14, .int .i64 S.length),(15, .int .i64 i)],rows,clk⟩∧rows 11=some ⟨v11,179,18,[[.int .i64 g.t.k, .int .i64 g.t.a, .int .i64 g.t.b, .int .i64 g.t.c, .int .i64 g.t.d,Po g.p, .int .i64 g.w, .bool g.k, .bool g.o,sc y g.f.y, .bool g.f.s,sc y g.f.d, .bool g.f.s',sc y g.f.d', .bool g.f.u,sc y g.f.e, .bool g.f.u',sc y g.f.e']]⟩∧(y=true→g.f=A9.no)∧rows 8=some ⟨v8,179,18,emap EO U⟩∧rows 5=some ⟨v5,54,9,[[.sl t.y, .bool t.s, .sl t.d, .bool t.s', .sl t.d', .bool t.u, .sl t.e, .bool t.u', .sl t.e']]⟩∧rows (id+1000000)=some ⟨ver,95,12,[co b n z L e]⟩∧(∀j,j≠id→rows (j+1000000)=jE (j+1000000))) ?_ ?_
  ·refine aA [0,2,5,8,10,11,13,14,15,21] ?_
   refine bJ ?_ ?_<;>intro h
   ·subst h
    obtain⟨y,hy,hk⟩:=hT' rfl
    rw [JD]at hk
    refine W.b7 (fun K hK=>?_)
    simp (disch:=omega) [gw,dM]
    refine nI hk rfl (by simp) K4 K4 (by simp [eS]) ?_
    simp (disch:=omega) [gw]
    exact hK _ ⟨_,aB _ [0,2,5,8,11,13,14,15],_,y,_,_,rfl,by simp [JD],hy,by simp [nP],by simp [dM],by simp,by intro j hj;simp [hj,iE]⟩
   ·subst h
    obtain rfl:=hF' rfl
    refine W.skip ?_
    exact⟨_,aB _ [0,2,5,8,11,13,14,15],_,true,_,_,rfl,by simp [WE.new,A9.no];rfl,by simp [WE.new],by simp [nP],by simp [dM],by simp [eS],by intro j hj;simp [hj,iE]⟩
  clear nP dM eS iE rows clk
  rintro _ ⟨v11,y,rows,clk,rfl,oV,hgf,nP,dM,eS,iE⟩
  refine W.b7 (fun K hK=>?_);simp (disch:=omega) [gw,oV,nP,hlen];refine W.lw [0,2,5,8,13,14,15] hK ?_;clear hK K;simp
  refine W.b7 (fun K hK=>?_);simp (disch:=omega) [gw]
  refine hK _ ⟨k-1,_,aB _ [0,2,5,8,13,14,15],by omega,i+1,_,_,_,_,rfl,by omega,?_,by simp [dM],by simp [eS],by intro j hj;simp [hj,iE]⟩
  rw [hU',kW]
  cases y
  ·simp [emap,aJ,hlen,gG,szc]
  ·have:=hgf rfl
   simp [emap,aJ,hlen,gG,this,A9.no,szc]
 ·have hi:i=S.length:=by simp at h;omega
  subst hi
  have hTT:(S.map G).take S.length=S.map G:=List.take_of_length_le (by simp)
  rw [hTT]at nP
  refine fA ?_
  refine W.freeze 8 (by simp [nP]) (fun K hK=>?_)
  simp [nP]
  rw [hTT]
  refine hK _ ?_;clear hK K
  simp only [gL]at eS ⊢
  refine W.sr ?_
  simp (disch:=omega) [gw,dM]
  refine aC hL ?_
  simp (disch:=omega) [gw,eS]
  refine bH [0,8] ?_
  refine W.b7 (fun K hK=>?_)
  simp (disch:=omega) [gw,eS]
  refine hK _ ?_
  simp [go,eS]
  exact⟨rfl,fun j hj=>by simp [hj,iE]⟩
theorem GY{n t:A9}{z:Bool}{L M:List WE}{e:Int}{C:List CE}
  (hY:g9 env.P 109 [.ag (b9 t), .bool false,aJ kV C] 95 12 (co false n z L e) (co true t false M e) (.dU [])) :
  g9 env.P 42 [.ag (b9 t),aJ kV C] 95 12 (co false n z L e) (co true t false M e) (.dU []):=by
 simp only [fG]at hY ⊢
 refine iK (E:=env) (fun _=>0) [(1, .ag [.sl t.y, .bool t.s, .sl t.d, .bool t.s', .sl t.d', .bool t.u, .sl t.e, .bool t.u', .sl t.e']),(2,aJ kV C)] Tryz.func42 rfl (by kernel_rfl) (by kernel_rfl) (show 3≤23 by decide) (by intro q;simp) ?_
 intro id ver jE adl eS
 have K4:=jM false n z L e
 have ahu:=jM true t false M e
 simp only [gL]at eS hY K4 ahu ⊢
 refine aA [0,2,4] ?_
 refine W.I2 (fun K hK=>?_)
 simp (disch:=omega) [gw,eS]
 refine I1 hY rfl rfl K4 ahu (by simp [eS]) ?_
 simp (disch:=omega) [gw]
 refine bA (by refine⟨?_,?_,?_⟩<;>kernel_rfl) ?_
 simp (disch:=omega) [gw]
 refine hK _ ?_
 simp [go,eS]
 exact fun j hj=>by simp [hj]
theorem anZ{α β:Type}{c:Prop}[Decidable c]{f g:α→β}{x:α}:(if c then f else g) x=if c then f x else g x:=by split<;>rfl
structure CS where
 b:Bool
 n:A9
 z:Bool
 L:List WE
 e:Int
def CS.c(s:CS):List PV:=co s.b s.n s.z s.L s.e
theorem CS.dA(s:CS):∀p∈s.c,bI p=true:=jM _ _ _ _ _
theorem adn{K:Nat}{S U:Nat→CS}{a:Nat→A9}{C:Nat→List CE}{m o r:A9}{ok s s':Bool}{d d':List (List PV)}{g:FuncId}{caps:List PV}{v:Int}(hv:¬0<v)(hK0:K<1000000)
  (hw:env.writes g=false) (hm:env.HW g=false) (K4:caps.all dA=true)
  (hN:g9 env.P 49 [] 95 12 (S 0).c (S 0).c (.ag (b9 m)))
  (hc:aE env.P 111 [.ag (b9 m), .ag [.bool s, .sl d, .bool s', .sl d']] (.int .i64 v))
  (hX:∀i,i<K→g9 env.P 51 [] 95 12 (S i).c (U i).c (.dU [.ag (b9 (a i)), .bool true]))
  (hC:∀i,i<K → ∃v:Int,¬0<v∧aE env.P 111 [.ag (b9 (a i)), .ag [.bool s, .sl d, .bool s', .sl d']] (.int .i64 v))
  (hL:∀i,i<K→aE env.P 112 [.sl [b9 (a i)]] (.dU [.ag (b9 (a i)), .bool true]))
  (hB:∀i,i<K→aE env.P g (.ag (b9 (a i))::caps) (aJ kV (C i)))
  (hY:∀i,i<K → ∃M e,g9 env.P 109 [.ag (b9 (a i)), .bool true,aJ kV (C i)] 95 12 (U i).c (co true (a i) false M e) (.dU [])∧S (i+1)=⟨true,a i,false,M,e+1⟩∧0≤e∧e<1000000)
  (hXK:g9 env.P 51 [] 95 12 (S K).c (U K).c (.dU [.ag (b9 r), .bool ok]))
  (hCK:ok=true → ∃v:Int,0<v∧aE env.P 111 [.ag (b9 r), .ag [.bool s, .sl d, .bool s', .sl d']] (.int .i64 v))
  (hO:aE env.P 113 [.ag [.bool s, .sl d, .bool s', .sl d']] (.ag (b9 o))) (hUz:(U K).z=false) :
  g9 env.P 43 [.ag [.bool s, .sl d, .bool s', .sl d'], .fn g caps] 95 12 (S 0).c (co true o false (U K).L (U K).e) (.dU [.int .i64 K, .int .i64 0]):=by
 simp only [fG]at hN hc hX hC hL hB hY hXK hCK hO
 have hpS:=fun i=>(S i).dA
 have hpU:=fun i=>(U i).dA
 refine iK (E:=env) (fun _=>0) [(1, .ag [.bool s, .sl d, .bool s', .sl d']),(2, .fn g caps)] Tryz.func43 rfl (by kernel_rfl) (by kernel_rfl) (show 3≤61 by decide) (by intro q;simp) ?_
 intro id ver jE adl eS
 refine bU [0,2,4] ?_
 refine W.sd ?_
 simp (disch:=omega) [gw,eS]
 refine I1 hN rfl rfl (hpS 0) (hpS 0) (by simp [eS]) ?_
 simp (disch:=omega) [gw,anZ]
 refine aC hc ?_
 simp (disch:=omega) [gw,hv]
 refine bH [0,2,4,17] ?_
 refine bJ ?_ ?_<;>intro h
 ·simp at h
 refine W.skip ?_
 refine bU [0,2,4,8] ?_
 refine W.block ?_
 refine W.bE (fun k σ=>∃(i v4:Nat) (rows:Pm.Rows) (clk:Nat),σ=⟨fa [(0, .ptr (id+1000000) ver 0 0),(2, .fn g caps),(4, .ptr 4 v4 0 0),(8, .int .i64 i)],rows,clk⟩∧i+k=K∧rows 4=some ⟨v4,52,4,[[.bool s, .sl d, .bool s', .sl d']]⟩∧rows (id+1000000)=some ⟨ver,95,12,[(S i).c]⟩∧(∀j,j≠id→rows (j+1000000)=jE (j+1000000))) K ?_ ?_
 ·exact⟨_,aB _ [0,2,4,8],0,_,_,_,rfl,by omega,by simp,by simp [eS],by intro j hj;simp [hj]⟩
 clear eS
 rintro k _ ⟨i,v4,rows,clk,rfl,zH,c9,eS,iE⟩
 refine W.block ?_
 by_cases hi:i<K
 ·have x:=hX i hi
  obtain⟨v,hv2,c⟩:=hC i hi
  have l:=hL i hi
  have b:=hB i hi
  obtain⟨M,e,y,hS,he0,LR⟩:=hY i hi
  have hpY:=jM true (a i) false M e
  generalize a i=ai at *
  refine jC ?_
  refine nI x rfl rfl (hpS i) (hpU i) (by simp [eS]) ?_
  simp (disch:=omega) [gw]
  refine bH [0,2,4,8,9,10] ?_
  refine W.seq ?_
  refine W.sr ?_
  simp (disch:=omega) [gw,c9]
  refine aC c ?_
  simp (disch:=omega) [gw,hv2]
  refine bH [0,2,4,8,9,30] ?_
  refine bJ ?_ ?_<;>intro h
  ·simp at h
  refine W.skip ?_
  refine aR [0,2,4,8,9,11] l ?_
  have hmP:vN env (.fn g caps)=false:=by cases caps<;>simp [hm]
  refine nU ?_
  rw [if_neg (by rw [hmP];decide)]
  simp (disch:=omega) [gw]
  refine cS b ?_
  refine I1 y rfl rfl (hpU i) hpY (by simp) ?_
  simp (disch:=omega) [gw]
  refine bH [0,2,4,8] ?_
  have vP:(S (i+1)).c=co true ai false M (e+1):=by rw [hS];rfl
  refine W.sr ?_
  simp (disch:=omega) [gw,gL]
  refine bH [0,2,4,8] ?_
  refine W.b7 (fun K hK=>?_);simp (disch:=omega) [gw]
  refine hK _ ⟨k-1,_,aB _ [0,2,4,8],by omega,i+1,_,_,_,rfl,by omega,by simp [c9],by rw [vP];simp [gL],by intro j hj;simp [hj,iE]⟩
 ·obtain rfl:i=K:=by omega
  refine jC ?_
  refine nI hXK rfl rfl (hpS i) (hpU i) (by simp [eS]) ?_
  simp (disch:=omega) [gw]
  refine bH [0,2,4,8,9,10] ?_
  refine W.seq ?_
  refine W.eJ (fun σ=>∃(rows:Pm.Rows) (clk:Nat),σ=⟨fa [(0, .ptr (id+1000000) ver 0 0),(4, .ptr 4 v4 0 0),(8, .int .i64 i),(30, .bool true)],rows,clk⟩∧rows 4=some ⟨v4,52,4,[[.bool s, .sl d, .bool s', .sl d']]⟩∧rows (id+1000000)=some ⟨ver,95,12,[(U i).c]⟩∧(∀j,j≠id→rows (j+1000000)=jE (j+1000000))) (fun K hK=>?_) ?_
  ·cases ok
   ·simp (disch:=omega) [gw]
    exact hK _ _ (aB _ [0,4,8,30]) ⟨_,_,rfl,by simp [c9],by simp,by intro j hj;simp [hj,iE]⟩
   ·obtain⟨v,hv2,c⟩:=hCK rfl
    simp (disch:=omega) [gw,c9]
    refine aC c ?_
    simp (disch:=omega) [gw,hv2]
    exact hK _ _ (aB _ [0,4,8,30]) ⟨_,_,rfl,by simp [c9],by simp,by intro j hj;simp [hj,iE]⟩
  clear eS c9 iE rows clk
  rintro _ ⟨rows,clk,rfl,c9,eS,iE⟩
  refine bJ ?_ ?_<;>intro h
  ·refine fA ?_
   simp only [CS.c,gL,hUz]at eS
   refine W.sr ?_
   simp (disch:=omega) [gw,c9,eS]
   refine aC hO ?_
   simp (disch:=omega) [gw,eS]
   refine bH [8] ?_
   refine aA [6,7] ?_
   refine W.ret ?_
   simp only [gL]
   simp [go,eS]
   exact fun j hj=>by simp [hj,iE]
  ·simp at h
theorem an0(n:Int)(h0:0≤n)(h1:n<4294967296):aE env.P 269 [.int .u32 n] (.int .i64 (32-nb n.toNat)):=by
 refine cD [(0, .int .u32 n)] Tryz.func269 ?_
 refine aA [0] ?_
 refine jC ?_
 refine aC (GJ n h0 h1) ?_
 have:nb n.toNat≤32:=oB.2 (by omega)
 simp (disch:=omega) [gw]
 refine bH [2] ?_
 exact cC
theorem ahw(l:List Int)(n:Nat)(hn:n≤31)(hl:l.length<1099511627775)(lm:cV 4294967296 l):aE env.P 275 [us l, .int .i64 n] (N (V 4294967296 l*2^n)):=by
 refine cD [(0,us l),(1, .int .i64 n)] Tryz.func275 ?_
 refine aA [0,1] ?_
 have gB:=bV l
 refine jC ?_
 refine aC (dQ l (by omega)) ?_
 simp (disch:=omega) [gw]
 refine bH [0,1] ?_
 have lx:=eG lm
 have hV:=c8 (b:=4294967296) l
 rw [←hV]
 have hxl:(aO l).length<1099511627775:=by omega
 clear hV
 generalize aO l=x at *
 have h65:¬(65536<(n:Int)):=by omega
 have e0:(if 0<n then(n:Int)else 0)=n:=by split<;>omega
 refine W.sr ?_
 simp (disch:=omega) [gw,h65,e0]
 refine bH [0,1] ?_
 refine aQ [0,1,18] ?_
 refine bJ ?_ ?_<;>intro h
 ·have h:x = []:=by simp at h;exact h
  subst h
  refine aA [4] ?_
  refine W.ret ?_
  simp [go,V]
  rfl
 have h:x ≠ []:=by simp at h;exact h
 refine W.skip ?_
 have d1:(n:Int)/32=0:=by omega
 have d2:(n:Int)%32=n:=by omega
 refine W.sr ?_
 simp (disch:=omega) [gw,d1,d2]
 refine bH [0,5,6] ?_
 refine aA [0,5,6,7] ?_
 refine aQ [5,6,7,30,31,32] ?_
 refine W.block ?_
 have h2n:(2:Int)^n≤2147483648:=by
  have:=Int.ofNat_le.2 (Nat.pow_le_pow_right (show 0<2 by decide) hn)
  simpa using this
 have h2p:(0:Int)<2^n:=Int.pow_pos (by decide)
 have h2d:(2:Int)^n∣4294967296:=by
  refine⟨2^(32-n),?_⟩
  rw [←Int.pow_add,show n+(32-n)=32 by omega];rfl
 refine W.bE (fun q σ=>∃(i v:Nat) (z:List Int) (rows:Pm.Rows) (clk:Nat),σ=⟨fa [(5, .int .i64 0),(6, .int .u64 n),(7, .own 29 v 0 (x.length+1)),(30,us x),(31, .int .i64 x.length),(32, .int .i64 i)],rows,clk⟩ ∧
  rows 29=some ⟨v,185,1,emap u32 z⟩∧q=x.length-i∧i≤x.length∧z.length=x.length+1∧cV 4294967296 z∧V 4294967296 (z.take (i+1))=V 4294967296 (x.take i)*2^n∧nth z i<2^n) x.length ?_ ?_
 ·exact⟨_, .refl,0,_,List.replicate (x.length+1) 0,_,_,rfl,by simp,by omega,by omega,by simp,cV.rep (by decide) _,by simp [V,List.replicate_succ],by rw [bW (by simp)];simp;exact h2p⟩
 rintro q _ ⟨i,v,z,rows,clk,rfl,hr,hq,hi,hz,lz,hV,hzi⟩
 refine bU [5,6,7,30,31,32,33] ?_
 refine bJ ?_ ?_<;>intro h
 ·have hi:i<x.length:=by simp at h;omega
  have hw:=lx.nth hi
  refine lF ?_
  refine aA [5,6,7,8,9,30,31,32] ?_
  have hVx:=aV (b:=4294967296) hi
  generalize hwe:nth x i=w at *
  have hv0:0≤w*2^n:=Int.mul_nonneg hw.1 (by omega)
  have hv1:w*2^n<4294967296*2^n:=Int.mul_lt_mul_of_pos_right hw.2 h2p
  have hvd:(2^n:Int)∣w*2^n:=⟨w,Int.mul_comm _ _⟩
  have hwr:IntKind.u64.wrap (w*2^n)=w*2^n:=wrap_u64 hv0 (by omega)
  have azw:=lz.nth (i:=i) (by omega)
  refine W.sr ?_
  simp (disch:=omega) [gw,hwr]
  refine bH [5,6,7,8,10,30,31,32] ?_
  have azx:V 4294967296 (x.take (i+1))*2^n=V 4294967296 (x.take i)*2^n+4294967296^i*(w*2^n):=by rw [hVx];grind
  generalize hve:w*2^n=y at *
  have auj:(2^n:Int)∣y%4294967296:=by
   rw [Int.emod_def]
   exact Int.dvd_sub hvd (Int.dvd_trans h2d (Int.dvd_mul_right _ _))
  have aCP:y%4294967296+2^n≤4294967296:=by
   obtain⟨c,hc⟩:=auj
   obtain⟨d,hd⟩:=h2d
   have h1:(2^n:Int)*c<2^n*d:=by have:=Int.emod_lt_of_pos y (show (0:Int)<4294967296 by decide);omega
   have h2:c<d:=Int.lt_of_mul_lt_mul_left h1 (by omega)
   have h3:=Int.mul_le_mul_of_nonneg_left (show c+1≤d by omega) (show 0≤(2^n:Int)by omega)
   rw [Int.mul_add]at h3
   omega
  have hor:=(agG (a:=y%4294967296) (b:=nth z i) n (by omega) azw.1 auj hzi (by omega)).2
  have hwy:IntKind.u32.wrap y=y%4294967296:=wrap_u32'
  refine W.sr ?_
  simp (disch:=omega) [gw,hr,hz,hwy,hor]
  refine bH [5,6,7,8,10,30,31,32] ?_
  refine W.b7 (fun K hK=>?_)
  simp (disch:=omega) [gw,hz]
  refine W.lw [5,6,7,30,31,32] hK ?_;clear hK K;simp
  refine W.b7 (fun K hK=>?_);simp (disch:=omega) [gw]
  refine hK _ ⟨x.length-(i+1),_,aB _ [5,6,7,30,31,32],by omega,i+1,v,(z.set i (y%4294967296+nth z i)).set (i+1) (y/4294967296),_,_,rfl,by simp,by omega,by omega,by simp [hz],(lz.set ⟨by omega,by omega⟩).set ⟨by omega,by omega⟩,?_,?_⟩
  ·have q1:=fF (b:=4294967296) (l:=z.set i (y%4294967296+nth z i)) (i:=i+1) (x:=y/4294967296) (by simp;omega)
   have q2:=fF (b:=4294967296) (l:=z) (i:=i) (x:=y%4294967296+nth z i) (by omega)
   have q3:=aV (b:=4294967296) (l:=z) (i:=i) (by omega)
   have q4:=Int.mul_ediv_add_emod y 4294967296
   rw [q1,q2,azx,←hV,q3,Int.pow_succ]
   generalize y/4294967296=yq at *
   generalize y%4294967296=yr at *
   rw [←q4];grind
  ·rw [eZ (by simp;omega)];omega
 ·have hi:i=x.length:=by simp at h;omega
  subst hi
  have hVz:V 4294967296 z=V 4294967296 x*2^n:=by
   rw [a9 (by omega),a9 (Nat.le_refl _)]at hV;exact hV
  have zz:=bL hz
  have qG:=dQ z (by omega)
  rw [wG lz,hVz]at qG
  refine fA ?_
  refine W.sr ?_
  simp (disch:=omega) [gw,hr,zz]
  refine cN [4] qG ?_
  exact cC
theorem NQ(l:List Int)(n m:Nat)(hn:n≤31)(hl:l.length<1099511627775)(lm:cV 4294967296 l)(PW:0<m)(K9:m<1099511627776)(hb:V 4294967296 l*2^n<4294967296^m) :
  ∃y:List Int,mD env.P 270 [us l, .int .i64 n, .int .i64 m] 185 1 (emap u32 y)∧y.length=m∧cV 4294967296 y∧V 4294967296 y=V 4294967296 l*2^n:=by
 have hp:0≤V 4294967296 l*2^n:=Int.mul_nonneg (bM (by decide) lm) (Int.le_of_lt (Int.pow_pos (by decide)))
 obtain⟨N0,hN⟩:=Int.eq_ofNat_of_zero_le hp
 have hS:=ahw l n hn hl lm
 rw [hN]at hS hb
 replace hS:aE env.P 275 [us l, .int .i64 n] (us (aS LL N0)):=hS
 have hdl:(aS LL N0).length≤m:=AR gF (by
  have h4:((4294967296^m:Nat):Int)=(4294967296:Int)^m:=Int.natCast_pow 4294967296 m
  show N0<4294967296^m
  omega)
 have UM:=fI gF N0
 have hdv:=kP gF N0
 refine⟨aS LL N0++List.replicate (m-(aS LL N0).length) 0,?_,by simp;omega,cV.append.2 ⟨UM,cV.rep (by decide) _⟩,by rw [eB,qW,hN,←hdv];simp⟩
 generalize aS LL N0=D at *
 refine qF (E:=env) (fun _=>0) (t:=6) [(0,us l),(1, .int .i64 n),(2, .int .i64 m)] Tryz.func270 rfl (by kernel_rfl) (by kernel_rfl) (show 3≤16 by decide) rfl (by simp) ?_
 refine aA [0,1,2] ?_
 refine aA [0,1,7] ?_
 refine jC ?_
 refine cS hS ?_
 refine as3 (e':=185) (els:=emap u32 (List.replicate m 0)) (l:=emap u32 D) (by simp) (by simp) PW rfl (fun e he=>by simp only [emap,List.mem_map]at he;obtain⟨x,_,rfl⟩:=he;rfl) ?_
 have e1:(emap u32 (List.replicate m 0)).take 0++(emap u32 D).take m++(emap u32 (List.replicate m 0)).drop (0+min (emap u32 D).length m)=emap u32 (D++List.replicate (m-D.length) 0):=by
  simp only [emap,List.take_zero,List.nil_append,List.length_map,Nat.zero_add,List.map_append,Nat.min_eq_left hdl]
  rw [List.take_of_length_le (by simpa using hdl),←List.map_drop,List.drop_replicate]
 rw [e1]
 generalize hy:D++List.replicate (m-D.length) 0=y at *
 have P3:y.length=m:=by rw [←hy];simp;omega
 simp (disch:=omega) [gw]
 refine bH [7] ?_
 refine aA [6] ?_
 refine W.ret ?_
 exact⟨9,0,by simp [P3],by simp,fun x hx p hp=>by
  simp only [emap,List.mem_map]at hx
  obtain⟨r,_,rfl⟩:=hx
  simp at hp
  subst hp;rfl⟩
theorem ahy(a:List Int)(w:Int)(ha:a.length<1099511627775)(la:cV 4294967296 a)(hw0:0<w)(Y7:w<4294967296):aE env.P 268 [us a, .int .u32 w] (.dU [N (V 4294967296 a/w), .int .u32 (V 4294967296 a%w)]):=by
 refine cD [(0,us a),(1, .int .u32 w)] Tryz.func268 ?_
 refine aA [0,1] ?_
 refine aA [0,1,6] ?_
 refine aA [0,1,6,7] ?_
 refine aQ [0,1,6,7,8] ?_
 refine W.block ?_
 refine W.bE (fun q σ=>∃(v:Nat) (r:Int) (z:List Int) (rows:Pm.Rows) (clk:Nat),σ=⟨fa [(0,us a),(1, .int .u32 w),(6, .own 12 v 0 a.length),(7, .int .u64 r),(8, .int .i64 ((q:Int)-1))],rows,clk⟩ ∧
  rows 12=some ⟨v,185,1,emap u32 z⟩∧q≤a.length∧z.length=a.length∧cV 4294967296 z∧V 4294967296 (z.drop q)*w+r=V 4294967296 (a.drop q)∧0≤r∧r<w) a.length ?_ ?_
 ·exact⟨_, .refl,0,0,List.replicate a.length 0,_,_,rfl,by simp,by omega,by simp,cV.rep (by decide) _,by simp [V],by omega,hw0⟩
 rintro q _ ⟨v,r,z,rows,clk,rfl,hr,hq,hz,lz,hV,FV,CO⟩
 refine aQ [0,1,6,7,8,17] ?_
 refine bJ ?_ ?_<;>intro h
 ·have PZ:0<q:=by simp at h;omega
  obtain⟨j,rfl⟩:∃j,q=j+1:=⟨q-1,by omega⟩
  clear h
  have hj:=la.nth (i:=j) (by omega)
  have ej:((j+1:Nat):Int)-1=j:=by omega
  rw [ej]
  have hVa:V 4294967296 (a.drop j)=nth a j+4294967296*V 4294967296 (a.drop (j+1)):=by rw [fE (by omega)];rfl
  generalize hxe:nth a j=x at *
  have hrb:r*4294967296<18446744073709551616:=by omega
  have hor:=(AU (a:=r*4294967296) (b:=x) 32 (by omega) hj.1 ⟨r,by rw [Int.mul_comm];rfl⟩ (by simpa using hj.2) (by omega)).1
  refine lF ?_
  refine W.sr ?_
  simp (disch:=omega) [gw,hxe,hor]
  refine bH [0,1,6,8,9] ?_
  have hs:(r*4294967296+x)/w<4294967296:=Int.ediv_lt_of_lt_mul hw0 (by
   have:=Int.mul_le_mul_of_nonneg_right (show r+1≤w by omega) (show (0:Int)≤4294967296 by decide)
   rw [Int.mul_comm 4294967296];omega)
  have VF:0≤(r*4294967296+x)/w:=Int.ediv_nonneg (by omega) (by omega)
  have PW:=Int.emod_nonneg (r*4294967296+x) (show w≠0 by omega)
  have K9:=Int.emod_lt_of_pos (r*4294967296+x) hw0
  have Y3:=Int.mul_ediv_add_emod (r*4294967296+x) w
  have hw':¬w=0:=by omega
  refine W.I2 (fun K hK=>?_)
  simp (disch:=omega) [gw,hr,hz,hw']
  refine bA (by kernel_rfl) ?_
  simp (disch:=omega) [gw,hr,hz,hw']
  refine W.lw [0,1,6,7,8] hK ?_;clear hK K;simp
  refine W.b7 (fun K hK=>?_);simp (disch:=omega) [gw]
  refine hK _ ⟨j,_,aB _ [0,1,6,7,8],by omega,v,(r*4294967296+x)%w,z.set j ((r*4294967296+x)/w),_,_,rfl,by simp,by omega,by simp [hz],lz.set ⟨VF,hs⟩,?_,PW,K9⟩
  rw [fE (l:=z.set j _) (i:=j) (by simp;omega),eZ (by omega),hVa,←hV,List.drop_set_of_lt (by omega)]
  simp only [V]
  generalize (r*4294967296+x)/w=qq at *
  generalize (r*4294967296+x)%w=rr at *
  grind
 ·have PZ:q=0:=by simp at h;omega
  subst PZ
  have zz:=bL hz
  have qG:=dQ z (by omega)
  simp only [List.drop_zero]at hV
  have h1:V 4294967296 z=V 4294967296 a/w∧r=V 4294967296 a%w:=by
   have h2:V 4294967296 a/w=V 4294967296 z:=by
    have e:(V 4294967296 z+1)*w=V 4294967296 z*w+w:=by grind
    rw [Int.ediv_eq_iff_of_pos hw0]
    constructor<;>omega
   refine⟨h2.symm,?_⟩
   have h3:=Int.emod_def (V 4294967296 a) w
   rw [h2,Int.mul_comm]at h3
   omega
  rw [wG lz,h1.1]at qG
  have bX:=h1.2
  refine fA ?_
  refine W.sr ?_
  simp (disch:=omega) [gw,hr,zz]
  refine cN [4,5] qG ?_
  refine W.ret ?_
  simp [go,bX]
theorem qK{x:List Int}{i:Nat}(h:x.length≤i):nth x i=0:=iI h
theorem ahz(l:List Int)(n:Nat)(hn:n≤31)(hl:l.length<1099511627775)(lm:cV 4294967296 l):aE env.P 272 [us l, .int .i64 n] (N (V 4294967296 l/2^n)):=by
 refine cD [(0,us l),(1, .int .i64 n)] Tryz.func272 ?_
 refine aA [0,1] ?_
 have gB:=bV l
 refine jC ?_
 refine aC (dQ l (by omega)) ?_
 simp (disch:=omega) [gw]
 refine bH [0,1] ?_
 have lx:=eG lm
 have hV:=c8 (b:=4294967296) l
 rw [←hV]
 have hxl:(aO l).length<1099511627775:=by omega
 clear hV
 generalize aO l=x at *
 have h65:¬(65536<(n:Int)):=by omega
 have e0:(if 0<n then(n:Int)else 0)=n:=by split<;>omega
 refine W.sr ?_
 simp (disch:=omega) [gw,h65,e0]
 refine bH [0,1] ?_
 have d1:(n:Int)/32=0:=by omega
 have d2:(n:Int)%32=n:=by omega
 refine W.sr ?_
 simp (disch:=omega) [gw,d1,d2]
 refine bH [0,5,6] ?_
 refine aQ [0,5,6,23] ?_
 refine bJ ?_ ?_<;>intro h
 ·have h:x = []:=by simp at h;exact h
  subst h
  refine aA [4] ?_
  refine W.ret ?_
  simp [go,V]
  rfl
 have h:x ≠ []:=by simp at h;exact h
 refine W.skip ?_
 refine aA [0,5,6,7] ?_
 refine aQ [0,5,6,7,30,31] ?_
 refine W.block ?_
 have h2p:(0:Int)<2^n:=Int.pow_pos (by decide)
 have h2e:(0:Int)<2^(32-n):=Int.pow_pos (by decide)
 have h2d:(2:Int)^n*2^(32-n)=4294967296:=by
  rw [←Int.pow_add,show n+(32-n)=32 by omega];rfl
 refine W.bE (fun q σ=>∃(i v:Nat) (z:List Int) (rows:Pm.Rows) (clk:Nat),σ=⟨fa [(0,us x),(5, .int .i64 0),(6, .int .u64 n),(7, .own 28 v 0 x.length),(30, .int .i64 x.length),(31, .int .i64 i)],rows,clk⟩ ∧
  rows 28=some ⟨v,185,1,emap u32 z⟩∧q=x.length-i∧i≤x.length∧z.length=x.length∧cV 4294967296 z∧2^n*V 4294967296 (z.take i)+nth x 0%2^n=V 4294967296 (x.take i)+(nth x i%2^n)*4294967296^i) x.length ?_ ?_
 ·exact⟨_, .refl,0,_,List.replicate x.length 0,_,_,rfl,by simp,by omega,by omega,by simp,cV.rep (by decide) _,by simp [V]⟩
 rintro q _ ⟨i,v,z,rows,clk,rfl,hr,hq,hi,hz,lz,hV⟩
 refine bU [0,5,6,7,30,31,32] ?_
 refine bJ ?_ ?_<;>intro h
 ·have hi:i<x.length:=by simp at h;omega
  have hw:=lx.nth hi
  have hw2:0≤nth x (i+1)∧nth x (i+1)<4294967296:=by
   rcases Nat.lt_or_ge (i+1) x.length with h3 | h3
   ·exact lx.nth h3
   ·rw [qK h3];decide
  have hVx:=aV (b:=4294967296) hi
  obtain⟨q1,q2,q3⟩:=acI h2p h2e h2d hw hw2
  generalize hwe:nth x i=w at *
  refine lF ?_
  refine aA [0,5,6,7,8,30,31] ?_
  refine W.sr ?_
  simp (disch:=omega) [gw,hwe]
  refine bH [0,5,6,7,8,9,30,31] ?_
  refine W.iB (fun σ=>∃(rows:Pm.Rows) (clk:Nat),σ=⟨fa [(0,us x),(5, .int .i64 0),(6, .int .u64 n),(7, .own 28 v 0 x.length),(8, .int .i64 i),(9, .int .u64 (w+4294967296*nth x (i+1))),(30, .int .i64 x.length),(31, .int .i64 i)],rows,clk⟩∧rows 28=some ⟨v,185,1,emap u32 z⟩) ?_ ?_
  ·
   refine aA [0,5,6,7,8,9,30,31,47] ?_
   refine bJ ?_ ?_<;>intro h
   ·have h:i+1<x.length:=by simp at h;omega
    have hor:=(AU (a:=nth x (i+1)*4294967296) (b:=w) 32 (by omega) hw.1 ⟨nth x (i+1),by rw [Int.mul_comm];rfl⟩ (by simpa using hw.2) (by omega)).2
    rw [show nth x (i+1)*4294967296+w=w+4294967296*nth x (i+1)by omega]at hor
    refine W.b7 (fun K hK=>?_);simp (disch:=omega) [gw,hor]
    exact hK _ ⟨_,aB _ [0,5,6,7,8,9,30,31],_,_,rfl,by simp [hr]⟩
   ·have h:x.length≤i+1:=by simp at h;omega
    rw [qK h]
    refine W.skip ?_
    exact⟨_,Gh.fr [(0,us x),(5, .int .i64 0),(6, .int .u64 n),(7, .own 28 v 0 x.length),(8, .int .i64 i),(9, .int .u64 (w+4294967296*0)),(30, .int .i64 x.length),(31, .int .i64 i)] (by simp),_,_,rfl,by simp [hr]⟩
  rintro _ ⟨rows,clk,rfl,hr⟩
  have hwr:IntKind.u32.wrap ((w+4294967296*nth x (i+1))/2^n)=((w+4294967296*nth x (i+1))/2^n)%4294967296:=wrap_u32'
  have hfd:(w+4294967296*nth x (i+1)).fdiv (2^n)=(w+4294967296*nth x (i+1))/2^n:=Int.fdiv_eq_ediv_of_nonneg _ (by omega)
  refine W.b7 (fun K hK=>?_)
  simp (disch:=omega) [gw,hr,hz,hfd,hwr]
  refine W.lw [0,5,6,7,30,31] hK ?_;clear hK K;simp
  refine W.b7 (fun K hK=>?_);simp (disch:=omega) [gw]
  refine hK _ ⟨x.length-(i+1),_,aB _ [0,5,6,7,30,31],by omega,i+1,v,z.set i (((w+4294967296*nth x (i+1))/2^n)%4294967296),_,_,rfl,by simp,by omega,by omega,by simp [hz],lz.set ⟨q2,q3⟩,?_⟩
  rw [fF (by omega),hVx,Int.mul_add,Int.pow_succ]
  generalize ((w+4294967296*nth x (i+1))/2^n)%4294967296=o at *
  generalize nth x (i+1)%2^n=lo1 at *
  generalize w%2^n=lo at *
  have e2:(2:Int)^n*(4294967296^i*o)=4294967296^i*(2^n*o):=by grind
  rw [e2,q1]
  grind
 ·have hi:i=x.length:=by simp at h;omega
  subst hi
  have zz:=bL hz
  have qG:=dQ z (by omega)
  rw [wG lz]at qG
  rw [zz,List.take_of_length_le (Nat.le_refl _),qK (Nat.le_refl _)]at hV
  have hVz:V 4294967296 x/2^n=V 4294967296 z:=by
   have h5:=Int.emod_nonneg (nth x 0) (show (2^n:Int)≠0 by omega)
   have h6:=Int.emod_lt_of_pos (nth x 0) h2p
   rw [Int.zero_emod,Int.zero_mul,Int.add_zero]at hV
   have e:(V 4294967296 z+1)*2^n=2^n*V 4294967296 z+2^n:=by grind
   have e':V 4294967296 z*2^n=2^n*V 4294967296 z:=Int.mul_comm _ _
   rw [Int.ediv_eq_iff_of_pos h2p]
   constructor<;>omega
  rw [hVz]
  refine fA ?_
  refine W.sr ?_
  simp (disch:=omega) [gw,hr,zz]
  refine cN [4] qG ?_
  exact cC
theorem gM(z:List Int)(o k:Nat):nth (z.drop o) k=nth z (o+k):=by simp [nth,List.getElem?_drop]
theorem m9(z:List Int)(o k:Nat)(x:Int):(z.set (o+k) x).drop o=(z.drop o).set k x:=by
 rw [List.drop_set]
 rw [if_neg (by omega)]
 congr 1;omega
set_option maxHeartbeats 2000000 in
theorem SK{id ver off m:Nat}(zl y:List Int)(rows:Pm.Rows)(clk:Nat)(hr:rows id=some ⟨ver,185,1,emap u32 zl⟩)(P3:y.length=m+2)(hym:m<1099511627776)(ly:cV 4294967296 y)(aEQ:2147483648≤nth y (m+1))(lz:cV 4294967296 zl)
  (abb:off+m+3≤zl.length) (H6:zl.length<1099511627776) (dK:V 4294967296 ((zl.drop off).take (m+3))<4294967296*V 4294967296 y) :
  LM env.P 271 [.own id ver off (m+3),us y] rows clk (fun r rows' gZ=>∃D:List Int,r = .int .u32 (V 4294967296 ((zl.drop off).take (m+3))/V 4294967296 y)∧rows'=dW rows id (some ⟨ver,185,1,emap u32 (zl.take off++D)⟩)∧gZ=clk ∧
   D.length=(zl.drop off).length∧cV 4294967296 D∧D.drop (m+3)=(zl.drop off).drop (m+3)∧V 4294967296 (D.take (m+3))=V 4294967296 ((zl.drop off).take (m+3))%V 4294967296 y):=by
 obtain⟨SL,hc⟩:=asZ (D:=zl.drop off) (by simp;omega) P3 (lz.drop off) ly (by omega) dK
 have l1:=ly.nth (i:=m) (by omega)
 have l2:=ly.nth (i:=m+1) (by omega)
 have k0:=(lz.drop off).nth (i:=m) (by simp;omega)
 have k1:=(lz.drop off).nth (i:=m+1) (by simp;omega)
 have k2:=(lz.drop off).nth (i:=m+2) (by simp;omega)
 have n0:=gM zl off m
 have n1:=gM zl off (m+1)
 have n2:=gM zl off (m+2)
 have hDl:(zl.drop off).length=zl.length-off:=by simp
 have hYb:V 4294967296 y<4294967296^(m+2):=by have:=oS (by decide) ly;rwa [P3]at this
 have hX:V 4294967296 ((zl.drop off).take (m+3))=V 4294967296 ((zl.drop off).take (m+2))+4294967296^(m+2)*nth (zl.drop off) (m+2):=aV (by simp;omega)
 refine R7 (E:=env) (fun _=>0) (t:=4) [(0, .own id ver off (m+3)),(1,us y)] Tryz.func271 rfl (by kernel_rfl) (by kernel_rfl) (show 2≤170 by decide) rfl (by simp) ?_
 refine aA [0,1] ?_
 refine W.sr ?_
 simp (disch:=omega) [gw,P3]
 refine bH [0,1,5] ?_
 have a1:((m:Int)+2-1)=((m+1:Nat):Int):=by omega
 have a2:((m:Int)+2-2)=(m:Int):=by omega
 refine W.sd ?_
 simp (disch:=omega) [gw,P3,a1,a2]
 refine bH [0,1,5,6,7] ?_
 rw [n0]at k0 SL
 rw [n1]at k1 SL
 rw [n2]at k2 SL hc hX
 generalize hxa:nth zl (off+m)=xa at *
 generalize hxb:nth zl (off+(m+1))=xb at *
 generalize hxc:nth zl (off+(m+2))=xc at *
 generalize htt:nth y (m+1)=top at *
 generalize hnn:nth y m=nx at *
 have hor:=(AU (a:=xc*4294967296) (b:=xb) 32 (by omega) k1.1 ⟨xc,by rw [Int.mul_comm];rfl⟩ (by simpa using k1.2) (by omega)).1
 have htp:¬top=0:=by omega
 refine W.sd ?_
 have a3:((m:Int)+2).toNat=m+2:=by omega
 simp (disch:=omega) [gw,hr,a1,a3,hxb,hxc,hor]
 refine bH [0,1,5,6,7,8] ?_
 generalize hXX:V 4294967296 ((zl.drop off).take (m+3))=X at *
 generalize hYY:V 4294967296 y=Y at *
 have hY0:=SL.Y0
 have hX0:0≤X:=by rw [←hXX];exact bM (by decide) ((lz.drop off).take _)
 have hhd:xc*4294967296+xb≤top*4294967296+4294967296-1:=by omega
 have hf:=SL.first
 have hg0:=Int.ediv_nonneg SL.h0 (show 0≤top by omega)
 have Y3:=Int.mul_ediv_add_emod (xc*4294967296+xb) top
 have FV:=Int.emod_nonneg (xc*4294967296+xb) htp
 have CO:=Int.emod_lt_of_pos (xc*4294967296+xb) (show 0<top by omega)
 have hgu:(xc*4294967296+xb)/top≤4294967297:=by
  rcases Int.lt_or_le 4294967297 ((xc*4294967296+xb)/top)with h | h
  ·exfalso
   have:=Int.mul_le_mul_of_nonneg_left (show 4294967298≤(xc*4294967296+xb)/top by omega) (show 0≤top by omega)
   omega
  ·exact h
 rw [Int.mul_comm]at Y3
 have hh0:=SL.h0
 generalize hhe:xc*4294967296+xb=head at *
 have hwq:IntKind.u64.wrap (head/top)=head/top:=wrap_u64 hg0 (by omega)
 refine W.sr ?_
 simp (disch:=omega) [gw,htp,hwq]
 refine bH [0,1,5,6,7,8,9] ?_
 refine W.sr ?_
 simp (disch:=omega) [gw,htp]
 refine bH [0,1,5,6,7,9,10] ?_
 refine W.dO (fun σ=>∃(g:Int),σ=⟨fa [(0, .own id ver off (m+3)),(1,us y),(5, .int .i64 ((m:Int)+2)),(9, .int .u64 g)],rows,clk⟩∧0≤g∧g<4294967296∧X<(g+1)*Y∧g*Y<X+Y) ?_ ?_
 ·
  refine W.bE (fun k σ=>∃(g r:Int),σ=⟨fa [(0, .own id ver off (m+3)),(1,us y),(5, .int .i64 ((m:Int)+2)),(6, .int .u64 top),(7, .int .u64 nx),(9, .int .u64 g),(10, .int .u64 r)],rows,clk⟩∧k=g.toNat∧0≤g∧g≤4294967297∧0≤r∧r<4294967296∧g*top+r=head∧X<(g+1)*Y) (head/top).toNat ?_ ?_
  ·exact⟨_, .refl,head/top,head%top,rfl,rfl,hg0,hgu,FV,by omega,Y3,hf⟩
  rintro k _ ⟨g,r,rfl,hk,q1,q2,q3,q4,q5,q6⟩
  refine W.seq ?_
  have azA:0≤g*nx:=Int.mul_nonneg q1 l1.1
  refine W.eJ (fun σ=>∃(b:Bool),σ=⟨fa [(0, .own id ver off (m+3)),(1,us y),(5, .int .i64 ((m:Int)+2)),(6, .int .u64 top),(7, .int .u64 nx),(9, .int .u64 g),(10, .int .u64 r),(71, .bool b)],rows,clk⟩∧(b=true↔4294967296≤g∨r*4294967296+xa<g*nx)) (fun K hK=>?_) ?_
  ·by_cases hb:4294967296≤g
   ·simp (disch:=omega) [gw,hb]
    exact hK _ _ (aB _ [0,1,5,6,7,9,10,71]) ⟨_,rfl,by simp [hb]⟩
   ·have aEX:g*nx≤4294967295*4294967295:=Int.mul_le_mul (by omega) (by omega) l1.1 (by omega)
    have hwr:IntKind.u64.wrap (g*nx)=g*nx:=wrap_u64 azA (by omega)
    have azB:=(AU (a:=r*4294967296) (b:=xa) 32 (by omega) k0.1 ⟨r,by rw [Int.mul_comm];rfl⟩ (by simpa using k0.2) (by omega)).1
    simp (disch:=omega) [gw,hb,hwr,hr,a2,hxa,azB]
    exact hK _ _ (aB _ [0,1,5,6,7,9,10,71]) ⟨_,rfl,by simp [hb]⟩
  rintro _ ⟨b,rfl,hb⟩
  refine bJ ?_ ?_<;>intro h
  ·have h:=hb.1 h
   have aum:X<g*Y:=by
    rcases h with h | h
    ·exact SL.big h
    ·exact SL.over q1 q5 h
   have hgp:1≤g:=by
    rcases Int.lt_or_le g 1 with h3 | h3
    ·exfalso
     have:g=0:=by omega
     rw [this,Int.zero_mul]at aum;omega
    ·exact h3
   have e5:(g-1)*top+(r+top)=head:=by rw [Int.sub_mul];omega
   have e6:X<(g-1+1)*Y:=by rw [Int.sub_add_cancel];exact aum
   refine W.skip ?_
   refine W.block ?_
   refine aA [0,1,5,6,7,9,10] ?_
   refine aA [0,1,5,6,7,9,10] ?_
   refine aA [0,1,5,6,7,9,10,78] ?_
   refine bJ ?_ ?_<;>intro h
   ·have h:4294967296≤r+top:=by simp at h;omega
    have K5:=SL.acH hhd e5 h
    have hnr:=SL.tM (by omega) K5 e5 (SL.asX (by omega) K5 h)
    refine fA ?_
    exact⟨_,aB _ [0,1,5,9],g-1,rfl,by omega,K5,e6,hnr⟩
   ·have h:r+top<4294967296:=by simp at h;omega
    refine W.skip ?_
    exact⟨(g-1).toNat,_,aB _ [0,1,5,6,7,9,10],by omega,g-1,r+top,rfl,rfl,by omega,by omega,by omega,h,e5,e6⟩
  ·have h:¬(4294967296≤g∨r*4294967296+xa<g*nx):=fun h2=>by rw [hb.2 h2]at h;cases h
   have hnr:=SL.tM q1 (by omega) q5 (by omega)
   refine fA ?_
   exact⟨_,aB _ [0,1,5,9],g,rfl,q1,by omega,q6,hnr⟩
 rintro _ ⟨g,rfl,g0,g1,hgX,hgY⟩
 clear hf hg0 Y3 FV CO hgu hor
 refine aA [0,1,5,9,11,12] ?_
 refine W.seq ?_
 refine W.sr ?_
 simp (disch:=omega) [gw,P3]
 refine bH [0,1,5,9,11,12,79,80,81] ?_
 refine W.block ?_
 refine W.bE (fun q σ=>∃(i:Nat) (c β:Int) (z:List Int) (wQ:Pm.Rows),σ=⟨fa [(0, .own id ver off (m+3)),(1,us y),(5, .int .i64 ((m:Int)+2)),(9, .int .u64 g),(11, .int .u64 c),(12, .int .u64 β),(79,us y),(80, .int .i64 ((m:Int)+2)),(81, .int .i64 i)],wQ,clk⟩ ∧
  wQ id=some ⟨ver,185,1,emap u32 z⟩∧(∀j,j≠id→wQ j=rows j)∧q=m+2-i∧i≤m+2∧z.length=zl.length∧cV 4294967296 z∧z.take off=zl.take off∧(z.drop off).drop i=(zl.drop off).drop i∧0≤c∧c<4294967296∧(β=0∨β=1) ∧
  V 4294967296 ((z.drop off).take i)+g*V 4294967296 (y.take i)=V 4294967296 ((zl.drop off).take i)+(c+β)*4294967296^i) (m+2) ?_ ?_
 ·exact⟨_,Gh.fr [(0, .own id ver off (m+3)),(1,us y),(5, .int .i64 ((m:Int)+2)),(9, .int .u64 g),(11, .int .u64 0),(12, .int .u64 0),(79,us y),(80, .int .i64 ((m:Int)+2)),(81, .int .i64 (0:Nat))] (by simp),0,0,0,zl,rows,rfl,hr,fun _ _=>rfl,by omega,by omega,rfl,lz,rfl,rfl,by omega,by omega, .inl rfl,by simp [V]⟩
 rintro q _ ⟨i,c,β,z,wQ,rfl,bX,hro,hq,hi,aun,lz2,hP,hD,c0,c1,hβ,hV⟩
 refine bU [0,1,5,9,11,12,79,80,81,82] ?_
 refine bJ ?_ ?_<;>intro h
 ·have hi:i<m+2:=by simp at h;omega
  have hw:=ly.nth (i:=i) (by omega)
  have hVy:=aV (b:=4294967296) (l:=y) (i:=i) (by omega)
  have hVx:=aV (b:=4294967296) (l:=zl.drop off) (i:=i) (by omega)
  have hxn:nth z (off+i)=nth (zl.drop off) i:=by
   rw [←gM]
   have:=congrArg (fun l=>nth l 0) hD
   simpa [gM]using this
  have hx:=(lz.drop off).nth (i:=i) (by omega)
  generalize nth (zl.drop off) i=x at *
  generalize hwe:nth y i=w at *
  obtain⟨s1,s2,β',rM,s3,s4⟩:=acJ ⟨g0,g1⟩ hw ⟨c0,c1⟩ hx hβ
  refine lF ?_
  refine W.sr ?_
  simp (disch:=omega) [gw,P3,hwe]
  refine bH [0,1,5,9,11,12,13,14,79,80,81] ?_
  have hp1:IntKind.u64.wrap (g*w)=g*w:=wrap_u64 (Int.mul_nonneg g0 hw.1) (by omega)
  have P4:IntKind.u64.wrap (g*w+c)=g*w+c:=wrap_u64 s1.1 (by omega)
  refine W.sr ?_
  simp (disch:=omega) [gw,hp1,P4]
  refine bH [0,1,5,9,12,13,15,79,80,81] ?_
  refine aA [0,1,5,9,11,12,13,15,79,80,81] ?_
  have hp3:IntKind.u32.wrap (g*w+c)=(g*w+c)%4294967296:=wrap_u32'
  have hp4:IntKind.u64.wrap (IntKind.u64.wrap (x-(g*w+c)%4294967296)-β)=(x-(g*w+c)%4294967296-β)%18446744073709551616:=by rw [j1,j1];omega
  refine W.sr ?_
  simp (disch:=omega) [gw,bX,hxn,hp3,hp4]
  refine bH [0,1,5,9,11,13,16,79,80,81] ?_
  have hs3:=s3
  have hs4:=s4
  generalize hss:(x-(g*w+c)%4294967296-β)%18446744073709551616=s at *
  have hp5:IntKind.u32.wrap s=s%4294967296:=wrap_u32'
  have hoi:off+i<z.length:=by omega
  refine W.b7 (fun K hK=>?_)
  simp (disch:=omega) [gw,bX,hp5,s3,hoi]
  refine W.lw [0,1,5,9,11,12,79,80,81] hK ?_;clear hK K;simp
  refine W.b7 (fun K hK=>?_);simp (disch:=omega) [gw]
  refine hK _ ⟨m+2-(i+1),_,aB _ [0,1,5,9,11,12,79,80,81],by omega,i+1,(g*w+c)/4294967296,β',z.set (off+i) (s%4294967296),_,rfl,by simp,fun j hj=>by simp [hj,hro j hj],by omega,by omega,by simp [aun],lz2.set ⟨by omega,by omega⟩,by rw [gP (by omega),hP],?_,s2.1,s2.2,rM,?_⟩
  ·rw [m9,List.drop_set_of_lt (by omega)]
   have:=congrArg (List.drop 1) hD
   rw [List.drop_drop,List.drop_drop,List.drop_drop,List.drop_drop]at this
   rw [List.drop_drop,List.drop_drop]
   exact this
  ·rw [m9,fF (by simp;omega),hVy,hVx,s4,Int.pow_succ]
   have h10:=Int.mul_ediv_add_emod (g*w+c) 4294967296
   generalize (g*w+c)/4294967296=pq at *
   generalize (g*w+c)%4294967296=pr at *
   generalize (4294967296:Int)^i=bi at *
   have e7:g*(V 4294967296 (y.take i)+bi*w)=g*V 4294967296 (y.take i)+bi*(g*w):=by grind
   rw [e7]
   have e8:g*w=4294967296*pq+pr-c:=by omega
   rw [e8]
   have e9:V 4294967296 ((z.drop off).take i)=V 4294967296 ((zl.drop off).take i)+(c+β)*bi-g*V 4294967296 (y.take i):=by omega
   rw [e9]
   grind
 ·have hi:i=m+2:=by simp at h;omega
  subst hi
  rw [List.take_of_length_le (show y.length≤m+2 by omega),hYY]at hV
  have hxn:nth z (off+(m+2))=xc:=by
   rw [←n2,←gM]
   have:=congrArg (fun l=>nth l 0) hD
   simpa [gM]using this
  have hV0:=bM (b:=4294967296) (by decide) ((lz2.drop off).take (m+2))
  have hV1:=oS (b:=4294967296) (by decide) ((lz2.drop off).take (m+2))
  rw [List.length_take,Nat.min_eq_left (by simp;omega)]at hV1
  have hXg:X-g*Y=V 4294967296 ((z.drop off).take (m+2))+4294967296^(m+2)*(xc-c-β):=by
   rw [hX]
   have:(c+β)*4294967296^(m+2)=4294967296^(m+2)*c+4294967296^(m+2)*β:=by grind
   rw [Int.mul_sub,Int.mul_sub];omega
  have hoi:off+(m+2)<z.length:=by omega
  generalize hbn:(4294967296:Int)^(m+2)=bn at *
  have hp4:IntKind.u64.wrap (IntKind.u64.wrap (xc-c)-β)=(xc-c-β)%18446744073709551616:=by rw [j1,j1];omega
  refine fA ?_
  refine W.sr ?_
  simp (disch:=omega) [gw,bX,a3,hxn,hp4]
  refine bH [0,1,5,9,17] ?_
  generalize hss:(xc-c-β)%18446744073709551616=s at *
  have hp5:IntKind.u32.wrap s=s%4294967296:=wrap_u32'
  refine W.sr ?_
  simp (disch:=omega) [gw,bX,a3,hp5,hoi]
  refine bH [0,1,5,9,17] ?_
  have ahB:(z.set (off+(m+2)) (s%4294967296)).drop off=(z.drop off).set (m+2) (s%4294967296):=m9 _ _ _ _
  have an3:(z.set (off+(m+2)) (s%4294967296)).take off=zl.take off:=by rw [gP (by omega),hP]
  have ahC:((z.drop off).set (m+2) (s%4294967296)).drop (m+3)=(zl.drop off).drop (m+3):=by
   rw [List.drop_set_of_lt (by omega)]
   have:=congrArg (List.drop 1) hD
   rw [List.drop_drop,List.drop_drop,List.drop_drop,List.drop_drop]at this
   rw [List.drop_drop,List.drop_drop]
   exact this
  have GZ:cV 4294967296 ((z.drop off).set (m+2) (s%4294967296)):=(lz2.drop off).set ⟨by omega,by omega⟩
  refine W.seq ?_
  rcases Int.lt_or_le (xc-c-β) 0 with adp | lK
  ·-- one too many
   have ahD:s/9223372036854775808=1:=by omega
   refine W.sr ?_
   simp (disch:=omega) [gw,ahD]
   refine bH [0,1,5,9,129] ?_
   refine bJ ?_ ?_<;>intro h
   ·cases h
   refine W.skip ?_
   have azF:bn*(xc-c-β) = - bn:=by
    rcases Int.lt_or_le (xc-c-β) (-1)with h | h
    ·exfalso
     have:=Int.mul_le_mul_of_nonneg_left (show xc-c-β ≤ -2 by omega) (show 0≤bn by omega)
     omega
    ·have:xc-c-β = -1:=by omega
     rw [this];omega
   have hsv:s%4294967296=4294967295:=by
    rcases Int.lt_or_le (xc-c-β) (-1)with h | h
    ·exfalso
     have:=Int.mul_le_mul_of_nonneg_left (show xc-c-β ≤ -2 by omega) (show 0≤bn by omega)
     omega
    ·omega
   rw [azF]at hXg
   obtain⟨hq1,hq2⟩:=SL.asY hgY (by omega)
   have hgp:0≤g-1:=by rw [hq1];exact Int.ediv_nonneg hX0 (by omega)
   rw [hsv]at ahB an3 ahC GZ ⊢
   have aur:((z.drop off).set (m+2) 4294967295).take (m+2)=(z.drop off).take (m+2):=gP (Nat.le_refl _)
   rw [←aur]at hXg hV0 hV1
   have aus:nth ((z.drop off).set (m+2) 4294967295) (m+2)=4294967295:=eZ (by simp;omega)
   generalize uT:z.set (off+(m+2)) 4294967295=z2 at *
   have azG:z2.length=zl.length:=by rw [←uT];simp [aun]
   rw [←ahB]at hXg hV0 hV1 aus GZ ahC
   have lz3:cV 4294967296 z2:=by rw [←uT];exact lz2.set ⟨by omega,by omega⟩
   clear hss hp5 hp4 ahD ahB aur hV hxn hD hP GZ lz2
   refine aA [0,1,5,9,18] ?_
   refine W.seq ?_
   refine W.sr ?_
   simp (disch:=omega) [gw,P3]
   refine bH [0,5,9,18,132,133,134] ?_
   refine W.block ?_
   refine W.bE (fun q σ=>∃(i:Nat) (k:Int) (z:List Int) (wQ:Pm.Rows),σ=⟨fa [(0, .own id ver off (m+3)),(5, .int .i64 ((m:Int)+2)),(9, .int .u64 g),(18, .int .u64 k),(132,us y),(133, .int .i64 ((m:Int)+2)),(134, .int .i64 i)],wQ,clk⟩ ∧
    wQ id=some ⟨ver,185,1,emap u32 z⟩∧(∀j,j≠id→wQ j=rows j)∧q=m+2-i∧i≤m+2∧z.length=zl.length∧cV 4294967296 z∧z.take off=zl.take off∧(z.drop off).drop i=(z2.drop off).drop i∧(k=0∨k=1) ∧
    V 4294967296 ((z.drop off).take i)+k*4294967296^i=V 4294967296 ((z2.drop off).take i)+V 4294967296 (y.take i)) (m+2) ?_ ?_
   ·exact⟨_,Gh.fr [(0, .own id ver off (m+3)),(5, .int .i64 ((m:Int)+2)),(9, .int .u64 g),(18, .int .u64 0),(132,us y),(133, .int .i64 ((m:Int)+2)),(134, .int .i64 (0:Nat))] (by simp),0,0,z2,_,rfl,by simp,fun j hj=>by simp [hj,hro j hj],by omega,by omega,azG,lz3,an3,rfl, .inl rfl,by simp [V]⟩
   rintro q _ ⟨i,k,z,aCV,rfl,cH,aut,hq,hi,azH,lz4,hP,hD,hk,hV⟩
   refine bU [0,5,9,18,132,133,134,135] ?_
   refine bJ ?_ ?_<;>intro h
   ·have hi:i<m+2:=by simp at h;omega
    have hw:=ly.nth (i:=i) (by omega)
    have hVy:=aV (b:=4294967296) (l:=y) (i:=i) (by omega)
    have hVx:=aV (b:=4294967296) (l:=z2.drop off) (i:=i) (by simp;omega)
    have hxn:nth z (off+i)=nth (z2.drop off) i:=by
     rw [←gM]
     have:=congrArg (fun l=>nth l 0) hD
     simpa [gM]using this
    have hx:=(lz3.drop off).nth (i:=i) (by simp;omega)
    generalize nth (z2.drop off) i=x at *
    generalize hwe:nth y i=w at *
    refine lF ?_
    refine W.sr ?_
    simp (disch:=omega) [gw,P3,hwe]
    refine bH [0,5,9,18,19,20,132,133,134] ?_
    refine W.sr ?_
    simp (disch:=omega) [gw,cH,hxn]
    refine bH [0,5,9,19,21,132,133,134] ?_
    have hp6:IntKind.u32.wrap (x+w+k)=(x+w+k)%4294967296:=wrap_u32'
    have azI:off+i<z.length:=by omega
    refine W.b7 (fun K hK=>?_)
    simp (disch:=omega) [gw,cH,hp6,azI]
    refine W.lw [0,5,9,18,132,133,134] hK ?_;clear hK K;simp
    refine W.b7 (fun K hK=>?_);simp (disch:=omega) [gw]
    refine hK _ ⟨m+2-(i+1),_,aB _ [0,5,9,18,132,133,134],by omega,i+1,(x+w+k)/4294967296,z.set (off+i) ((x+w+k)%4294967296),_,rfl,by simp,fun j hj=>by simp [hj,aut j hj],by omega,by omega,by simp [azH],lz4.set ⟨by omega,by omega⟩,by rw [gP (by omega),hP],?_,by omega,?_⟩
    ·rw [m9,List.drop_set_of_lt (by omega)]
     have:=congrArg (List.drop 1) hD
     rw [List.drop_drop,List.drop_drop,List.drop_drop,List.drop_drop]at this
     rw [List.drop_drop,List.drop_drop]
     exact this
    ·rw [m9,fF (by simp;omega),hVy,hVx,Int.pow_succ]
     have h10:=Int.mul_ediv_add_emod (x+w+k) 4294967296
     generalize (x+w+k)/4294967296=pq at *
     generalize (x+w+k)%4294967296=pr at *
     generalize (4294967296:Int)^i=bi at *
     have e8:pr=x+w+k-4294967296*pq:=by omega
     rw [e8]
     have e9:V 4294967296 ((z.drop off).take i)=V 4294967296 ((z2.drop off).take i)+V 4294967296 (y.take i)-k*bi:=by omega
     rw [e9]
     grind
   ·have hi:i=m+2:=by simp at h;omega
    subst hi
    rw [List.take_of_length_le (show y.length≤m+2 by omega),hYY,hbn]at hV
    have hxn:nth z (off+(m+2))=4294967295:=by
     rw [←aus,←gM]
     have:=congrArg (fun l=>nth l 0) hD
     simpa [gM]using this
    have R8:=bM (b:=4294967296) (by decide) ((lz4.drop off).take (m+2))
    have hV3:=oS (b:=4294967296) (by decide) ((lz4.drop off).take (m+2))
    rw [List.length_take,Nat.min_eq_left (by simp;omega),hbn]at hV3
    have hk1:k=1:=by
     rcases hk with rfl | rfl
     ·exfalso;omega
     ·rfl
    subst hk1
    have azJ:off+(m+2)<z.length:=by omega
    have hwc:IntKind.u32.wrap 4294967296=0:=rfl
    have hwg:IntKind.u32.wrap g=g:=wrap_u32 g0 g1
    refine fA ?_
    refine W.sr ?_
    simp (disch:=omega) [gw,cH,a3,hxn,azJ,hwc]
    refine bH [9] ?_
    refine W.sr ?_
    simp (disch:=omega) [gw,hwg]
    refine bH [4] ?_
    refine W.ret ?_
    refine⟨(z.drop off).set (m+2) 0,by simp [hq1],?_,rfl,by simp;omega,(lz4.drop off).set ⟨by omega,by omega⟩,?_,?_⟩
    ·have hzz:z.set (off+(m+2)) 0=zl.take off++(z.drop off).set (m+2) 0:=by
      rw [←m9,←hP,←gP (l:=z) (i:=off+(m+2)) (x:=0) (show off≤off+(m+2)by omega),List.take_append_drop]
     rw [hzz]
     funext j
     by_cases hj:j=id
     ·subst hj;simp
     ·simp [hj,aut j hj,dW]
    ·rw [List.drop_set_of_lt (by omega),←ahC]
     have:=congrArg (List.drop 1) hD
     rw [List.drop_drop,List.drop_drop,List.drop_drop,List.drop_drop]at this
     rw [List.drop_drop,List.drop_drop]
     exact this
    ·rw [show m+3=(m+2)+1 from rfl,fF (by simp;omega),hbn,←hq2]
     omega
  ·have ahD:s/9223372036854775808=0:=by omega
   have azL:0≤X-g*Y:=by
    rw [hXg]
    have:=Int.mul_nonneg (show 0≤bn by omega) lK
    omega
   obtain⟨hq1,hq2⟩:=SL.right hgX azL
   refine W.sr ?_
   simp (disch:=omega) [gw,ahD]
   refine bH [0,1,5,9,129] ?_
   refine bJ ?_ ?_<;>intro h
   ·have hwg:IntKind.u32.wrap g=g:=wrap_u32 g0 g1
    refine W.sr ?_
    simp (disch:=omega) [gw,hwg]
    refine bH [4] ?_
    refine W.ret ?_
    refine⟨(z.drop off).set (m+2) (s%4294967296),by simp [hq1],?_,rfl,by simp;omega,GZ,ahC,?_⟩
    ·have hzz:z.set (off+(m+2)) (s%4294967296)=zl.take off++(z.drop off).set (m+2) (s%4294967296):=by
      rw [←an3,←ahB,List.take_append_drop]
     rw [hzz]
     funext j
     by_cases hj:j=id
     ·subst hj;simp
     ·simp [hj,hro j hj,dW]
    ·rw [show m+3=(m+2)+1 from rfl,fF (by simp;omega),hbn,←hq2,hXg]
     have:s%4294967296=xc-c-β:=by omega
     rw [this]
   ·cases h
theorem adq{t:Int}(h0:0<t)(h1:t<4294967296):∃s:Nat,s≤31∧(32:Int)-nb t.toNat=s∧2147483648≤t*2^s∧(t+1)*2^s≤4294967296:=by
 have h2:nb t.toNat≤32:=oB.2 (by omega)
 have h3:1≤nb t.toNat:=by
  rcases Nat.eq_zero_or_pos (nb t.toNat)with h | h
  ·have:=oB.1 (Nat.le_of_eq h);omega
  ·exact h
 obtain⟨k,hk⟩:∃k,nb t.toNat=k+1:=⟨nb t.toNat-1,by omega⟩
 have h4:t.toNat<2^(k+1):=oB.1 (Nat.le_of_eq hk)
 have h5:2^k≤t.toNat:=by
  rcases Nat.lt_or_ge t.toNat (2^k)with h | h
  ·have:=oB.2 h;omega
  ·exact h
 have e1:(2:Int)^(k+1)*2^(31-k)=4294967296:=by rw [←Int.pow_add,show k+1+(31-k)=32 by omega];rfl
 have e2:(2:Int)^k*2^(31-k)=2147483648:=by rw [←Int.pow_add,show k+(31-k)=31 by omega];rfl
 have hp:(0:Int)<2^(31-k):=Int.pow_pos (by decide)
 have q1:((2^k:Nat):Int)=(2:Int)^k:=Int.natCast_pow 2 k
 have q2:((2^(k+1):Nat):Int)=(2:Int)^(k+1):=Int.natCast_pow 2 (k+1)
 refine⟨31-k,by omega,by omega,?_,?_⟩
 ·have:=Int.mul_le_mul_of_nonneg_right (show (2:Int)^k≤t by omega) (Int.le_of_lt hp)
  omega
 ·have:=Int.mul_le_mul_of_nonneg_right (show t+1≤(2:Int)^(k+1)by omega) (Int.le_of_lt hp)
  omega
theorem ZW{y:List Int}(hc:aO y=y)(h:y ≠ []):nth y (y.length-1)≠0:=by
 intro h0
 have hl:0<y.length:=List.length_pos_iff.2 h
 have e:y=y.take (y.length-1) ++ [0]:=by
  have:=bF (l:=y) (i:=y.length-1) (by omega)
  rw [h0,show y.length-1+1=y.length by omega,List.take_length]at this
  exact this
 have h1:=j2 (y.take (y.length-1))
 rw [←e,hc]at h1
 have h2:=bV (y.take (y.length-1))
 rw [←h1,List.length_take]at h2
 omega
theorem adr:N 0=us []:=rfl
theorem ads{m i:Nat}{X D:List Int}{Y g:Int}(lX:cV 4294967296 X)(lD:cV 4294967296 D)(hYb:Y<4294967296^(m+2))(hY0:0<Y)(tO:i+m+3≤X.length)(hDl:D.length=(X.drop i).length)(hDd:D.drop (m+3)=(X.drop i).drop (m+3))
  (hg:g=V 4294967296 ((X.drop i).take (m+3))/Y) (hDv:V 4294967296 (D.take (m+3))=V 4294967296 ((X.drop i).take (m+3))%Y) (dK:V 4294967296 (X.drop (i+1))<Y) :
  V 4294967296 ((X.take i++D).drop i)<Y∧V 4294967296 (X.take i++D)=V 4294967296 X-4294967296^i*(g*Y):=by
 have hl:(X.take i).length=i:=by simp;omega
 have e1:(X.take i++D).drop i=D:=by rw [List.drop_append,hl,List.drop_of_length_le (by omega)];simp
 have hD3:=kQ (b:=4294967296) D (m+3) (by rw [hDl];simp;omega)
 have hX3:=kQ (b:=4294967296) (X.drop i) (m+3) (by simp;omega)
 have hXi:=kQ (b:=4294967296) X i (by omega)
 have hz:V 4294967296 ((X.drop i).drop (m+3))=0:=by
  have h1:=kQ (b:=4294967296) (X.drop (i+1)) (m+2) (by simp;omega)
  have h2:(X.drop (i+1)).drop (m+2)=(X.drop i).drop (m+3):=by
   rw [List.drop_drop,List.drop_drop];congr 1;omega
  have h3:=bM (b:=4294967296) (by decide) ((lX.drop (i+1)).take (m+2))
  have h4:=bM (b:=4294967296) (by decide) ((lX.drop i).drop (m+3))
  rw [h2]at h1
  rcases Int.lt_or_le 0 (V 4294967296 ((X.drop i).drop (m+3)))with h5 | h5
  ·exfalso
   have:=Int.mul_le_mul_of_nonneg_left (show 1≤V 4294967296 ((X.drop i).drop (m+3))by omega) (show 0≤(4294967296:Int)^(m+2)by omega)
   omega
  ·omega
 rw [hDd,hz,Int.mul_zero,Int.add_zero]at hD3
 rw [hz,Int.mul_zero,Int.add_zero]at hX3
 have hm:=Int.emod_lt_of_pos (V 4294967296 ((X.drop i).take (m+3))) hY0
 have Y3:=Int.mul_ediv_add_emod (V 4294967296 ((X.drop i).take (m+3))) Y
 rw [←hg,←hDv,←hX3,←hD3]at Y3
 refine⟨by rw [e1,hD3,hDv];exact hm,?_⟩
 rw [eB,hl,hXi,←Y3]
 grind
theorem NR(a b:List Int)(ha:r9 a)(hb:r9 b)(h0:V 4294967296 b=0):aE env.P 259 [us a,us b] (.dU [us [],us [], .int .i64 2]):=by
 have hlb:=hb.len
 have Y9:=ha.len
 have hcb:=bV b
 have hy:aO b = []:=by rw [rZ gF hb.x6];show aS LL (V 4294967296 b).toNat = [];rw [h0];rfl
 refine cD [(0,us a),(1,us b)] Tryz.func259 ?_
 refine aA [0,1] ?_
 refine jC ?_
 refine aC (dQ a (by omega)) ?_
 simp (disch:=omega) [gw]
 refine aC (dQ b (by omega)) ?_
 simp (disch:=omega) [gw]
 refine bH [0,1] ?_
 rw [hy]
 refine W.seq ?_
 refine W.block ?_
 refine aA [0,1,18] ?_
 refine bJ ?_ ?_<;>intro h
 ·refine aA [4,5,6] ?_
  refine W.ret ?_
  simp [go]
  rfl
 ·cases h
theorem DJ(a b:List Int)(ha:r9 a)(hb:r9 b)(h0:V 4294967296 b≠0)(Y9:a.length<1099511627774)(hlb:b.length<1099511627774) :
  aE env.P 259 [us a,us b] (.dU [N (V 4294967296 a/V 4294967296 b),N (V 4294967296 a%V 4294967296 b), .int .i64 0]):=by
 have hca:=bV a
 have hcb:=bV b
 have hVa:=c8 (b:=4294967296) a
 have hVb:=c8 (b:=4294967296) b
 have lx:=eG ha.x6
 have ly:=eG hb.x6
 have cx:=eK a
 have cy:=eK b
 rw [←hVa,←hVb]
 rw [←hVb]at h0
 refine cD [(0,us a),(1,us b)] Tryz.func259 ?_
 refine aA [0,1] ?_
 refine jC ?_
 refine aC (dQ a (by omega)) ?_
 simp (disch:=omega) [gw]
 refine aC (dQ b (by omega)) ?_
 simp (disch:=omega) [gw]
 refine bH [0,1] ?_
 have hxl:(aO a).length<1099511627774:=by omega
 have P3:(aO b).length<1099511627774:=by omega
 clear hVa hVb hca hcb
 generalize aO a=x at *
 generalize aO b=y at *
 have hyn:y ≠ []:=fun h=>h0 (by rw [h];rfl)
 have hyp:0<y.length:=List.length_pos_iff.2 hyn
 have hY0:0<V 4294967296 y:=by have:=bM (b:=4294967296) (by decide) ly;omega
 have hX0:=bM (b:=4294967296) (by decide) lx
 refine W.seq ?_
 refine W.block ?_
 refine aA [0,1,18] ?_
 refine bJ ?_ ?_<;>intro h
 ·exfalso;simp at h;exact hyn h
 clear h
 refine aA [0,1,22] ?_
 refine bJ ?_ ?_<;>intro h
 ·have h:x.length<y.length:=by simp at h;omega
  have qT:=j4 (b:=4294967296) (by decide) lx ly cy h
  rw [Int.ediv_eq_zero_of_lt hX0 qT,Int.emod_eq_of_lt hX0 qT]
  refine jC ?_
  refine aC (nM x (by omega) lx) ?_
  simp (disch:=omega) [gw]
  refine bH [4,5,6] ?_
  refine W.ret ?_
  simp [go]
  rfl
 have qT:y.length≤x.length:=by simp at h;omega
 clear h
 refine aA [0,1,30] ?_
 refine bJ ?_ ?_<;>intro h
 ·have h:y.length=1:=by simp at h;omega
  obtain⟨w,rfl⟩:∃w,y = [w]:=match y,h with | [w],_=>⟨w,rfl⟩
  have hw:=(cV.cons.1 ly).1
  have hV1:V 4294967296 [w]=w:=n9
  rw [hV1]at h0 hY0 ⊢
  have PW:=Int.emod_nonneg (V 4294967296 x) h0
  have K9:=Int.emod_lt_of_pos (V 4294967296 x) hY0
  have kH:=ahy x w (by omega) lx hY0 hw.2
  have lr:cV 4294967296 [V 4294967296 x%w]:=cV.cons.2 ⟨⟨PW,by omega⟩,cV.nil⟩
  have qG:=dQ [V 4294967296 x%w] (by simp)
  rw [wG lr,n9]at qG
  have hnw:nth [w] 0=w:=rfl
  generalize V 4294967296 x/w=qq at *
  generalize V 4294967296 x%w=rr at *
  refine W.sr ?_
  simp (disch:=omega) [gw,hnw]
  refine cN [7,8] kH ?_
  refine aR [4,5,6] qG ?_
  exact cC
 have hy2:2≤y.length:=by simp at h;omega
 clear h
 obtain⟨m,hm⟩:∃m,y.length=m+2:=⟨y.length-2,by omega⟩
 have htn:=ZW cy hyn
 rw [show y.length-1=m+1 by omega]at htn
 have htl:=ly.nth (i:=m+1) (by omega)
 obtain⟨s,ahE,hsn,wH,hs2⟩:=adq (t:=nth y (m+1)) (by omega) htl.2
 have hLZ:=an0 (nth y (m+1)) htl.1 htl.2
 rw [hsn]at hLZ
 have hp:(0:Int)<2^s:=Int.pow_pos (by decide)
 have auw:(2:Int)^s≤2147483648:=by
  have:=Int.ofNat_le.2 (Nat.pow_le_pow_right (show 0<2 by decide) ahE)
  simpa using this
 have hbm:(0:Int)<4294967296^(m+1):=Int.pow_pos (by decide)
 have an4:=oS (b:=4294967296) (by decide) lx
 have hVy:=kQ (b:=4294967296) y (m+1) (by omega)
 have hy1:V 4294967296 (y.drop (m+1))=nth y (m+1):=by rw [fE (by omega),List.drop_of_length_le (by omega),n9]
 rw [hy1]at hVy
 have azS:=bM (b:=4294967296) (by decide) (ly.take (m+1))
 have hy3:=oS (b:=4294967296) (by decide) (ly.take (m+1))
 rw [List.length_take,Nat.min_eq_left (by omega)]at hy3
 have hyU:V 4294967296 y*2^s<4294967296^(m+2):=by
  have h1:V 4294967296 y<(nth y (m+1)+1)*4294967296^(m+1):=by rw [hVy];grind
  have h2:=Int.mul_lt_mul_of_pos_right h1 hp
  have h3:=Int.mul_le_mul_of_nonneg_right hs2 (Int.le_of_lt hbm)
  have e:(nth y (m+1)+1)*4294967296^(m+1)*2^s=(nth y (m+1)+1)*2^s*4294967296^(m+1):=by grind
  rw [show m+2=(m+1)+1 from rfl,Int.pow_succ]
  omega
 have hyL:2147483648*4294967296^(m+1)≤V 4294967296 y*2^s:=by
  have h1:nth y (m+1)*4294967296^(m+1)≤V 4294967296 y:=by rw [hVy,Int.mul_comm];omega
  have h2:=Int.mul_le_mul_of_nonneg_right h1 (Int.le_of_lt hp)
  have h3:=Int.mul_le_mul_of_nonneg_right wH (Int.le_of_lt hbm)
  have e:nth y (m+1)*4294967296^(m+1)*2^s=nth y (m+1)*2^s*4294967296^(m+1):=by grind
  omega
 have hxU:V 4294967296 x*2^s<4294967296^(x.length+1):=by
  rw [Int.pow_succ]
  exact Int.lt_of_lt_of_le (Int.mul_lt_mul_of_pos_right an4 hp) (Int.mul_le_mul_of_nonneg_left (by omega) (Int.le_of_lt (Int.pow_pos (by decide))))
 obtain⟨x',hwx,aE6,lx',an5⟩:=NQ x s (x.length+1) ahE (by omega) lx (by omega) (by omega) hxU
 obtain⟨y',hwy,auy,ly',ZY⟩:=NQ y s (m+2) ahE (by omega) ly (by omega) (by omega) hyU
 have azU:2147483648≤nth y' (m+1):=by
  have h1:=kQ (b:=4294967296) y' (m+1) (by omega)
  have h2:V 4294967296 (y'.drop (m+1))=nth y' (m+1):=by rw [fE (by omega),List.drop_of_length_le (by omega),n9]
  have h3:=oS (b:=4294967296) (by decide) (ly'.take (m+1))
  rw [List.length_take,Nat.min_eq_left (by omega)]at h3
  rw [h2,ZY]at h1
  rcases Int.lt_or_le (nth y' (m+1)) 2147483648 with h4 | h4
  ·exfalso
   have:=Int.mul_le_mul_of_nonneg_left (show nth y' (m+1)+1≤2147483648 by omega) (Int.le_of_lt hbm)
   rw [Int.mul_add,Int.mul_comm _ 2147483648]at this
   omega
  ·exact h4
 have ahF:0<V 4294967296 y':=by rw [ZY];exact Int.mul_pos hY0 hp
 have azV:V 4294967296 y'<4294967296^(m+2):=by rw [ZY];exact hyU
 have hxm:m+2≤x.length:=by omega
 have hqx:V 4294967296 x/V 4294967296 y=V 4294967296 x'/V 4294967296 y':=by rw [an5,ZY,Int.mul_ediv_mul_of_pos_left _ _ hp]
 have hrx:V 4294967296 x%V 4294967296 y=V 4294967296 x'%V 4294967296 y'/2^s:=by
  rw [an5,ZY]
  have e1:=Int.emod_def (V 4294967296 x*2^s) (V 4294967296 y*2^s)
  rw [Int.mul_ediv_mul_of_pos_left _ _ hp]at e1
  have e2:=Int.emod_def (V 4294967296 x) (V 4294967296 y)
  rw [e1,e2]
  have e3:V 4294967296 x*2^s-V 4294967296 y*2^s*(V 4294967296 x/V 4294967296 y)=(V 4294967296 x-V 4294967296 y*(V 4294967296 x/V 4294967296 y))*2^s:=by grind
  rw [e3,Int.mul_ediv_cancel _ (by omega)]
 have auz:V 4294967296 (x'.drop (x.length-m-1))<V 4294967296 y':=by
  have h1:=kQ (b:=4294967296) x' (x.length-m-1) (by omega)
  have h2:=bM (b:=4294967296) (by decide) (lx'.take (x.length-m-1))
  rw [an5]at h1
  have h3:V 4294967296 x*2^s<4294967296^(x.length-m-1)*(4294967296^(m+1)*2^s):=by
   rw [←Int.mul_assoc,←Int.pow_add,show x.length-m-1+(m+1)=x.length by omega]
   exact Int.mul_lt_mul_of_pos_right an4 hp
  have h4:V 4294967296 (x'.drop (x.length-m-1))<4294967296^(m+1)*2^s:=Int.lt_of_mul_lt_mul_left (a:=4294967296^(x.length-m-1)) (by omega) (Int.le_of_lt (Int.pow_pos (by decide)))
  have h5:=Int.mul_le_mul_of_nonneg_left auw (Int.le_of_lt hbm)
  rw [ZY]
  rw [Int.mul_comm _ 2147483648]at h5
  omega
 rw [hqx,hrx]
 refine W.skip ?_
 have a1:((m:Int)+2-1)=((m+1:Nat):Int):=by omega
 refine W.sr ?_
 simp (disch:=omega) [gw,hm,a1]
 refine cN [0,1,9] hLZ ?_
 replace hwx:mD env.P 270 [us x, .int .i64 s, .int .i64 ((x.length:Int)+1)] 185 1 (emap u32 x'):=hwx
 replace hwy:mD env.P 270 [us y, .int .i64 s, .int .i64 ((m:Int)+2)] 185 1 (emap u32 y'):=hwy
 refine W.sr ?_
 simp (disch:=omega) [gw,hm]
 refine ajO hwx 58 (by simp) (by simp) (by simp) ?_
 simp (disch:=omega) [gw,hm]
 refine ajO hwy 63 (by simp) (by simp) (by simp) ?_
 simp (disch:=omega) [gw]
 refine bH [0,9,10,11] ?_
 refine W.freeze 63 (by simp) (fun K hK=>?_)
 simp
 refine hK _ ?_;clear hK K
 refine W.sr ?_
 simp (disch:=omega) [gw,auy]
 refine bH [0,9,10,11,12] ?_
 obtain⟨ql,hql⟩:∃ql,x.length=ql+m+1:=⟨x.length-m-1,by omega⟩
 rw [show x.length-m-1=ql by omega]at auz
 have akp:x'.length=ql+m+2:=by omega
 have aq:(x.length:Int)-((m:Int)+2)+1=(ql:Int):=by omega
 refine W.sr ?_
 simp (disch:=omega) [gw,aq]
 refine bH [4,9,10,11,12] ?_
 clear hwx hwy hVy hy1 azS hy3 hyU hyL hxU hqx hrx htn htl wH hs2 hsn hLZ an4 hY0 hX0
 refine aQ [4,9,10,11,12,13] ?_
 refine W.block ?_
 refine W.bE (fun q σ=>∃(v4:Nat) (X Q:List Int) (rows:Pm.Rows) (clk:Nat),σ=⟨fa [(4, .own 71 v4 0 ql),(9, .int .i64 s),(10, .own 58 0 0 (ql+m+2)),(11,us y'),(12, .int .i64 ((m:Int)+2)),(13, .int .i64 ((q:Int)-1))],rows,clk⟩ ∧
  rows 58=some ⟨0,185,1,emap u32 X⟩∧rows 71=some ⟨v4,185,1,emap u32 Q⟩∧q≤ql∧X.length=ql+m+2∧Q.length=ql∧cV 4294967296 X∧cV 4294967296 Q ∧
  V 4294967296 X+4294967296^q*V 4294967296 (Q.drop q)*V 4294967296 y'=V 4294967296 x'∧V 4294967296 (X.drop q)<V 4294967296 y') ql ?_ ?_
 ·exact⟨_,Gh.fr [(4, .own 71 _ 0 ql),(9, .int .i64 s),(10, .own 58 0 0 (ql+m+2)),(11,us y'),(12, .int .i64 ((m:Int)+2)),(13, .int .i64 ((ql:Int)-1))] (by simp [akp];exact rfl),_,x',List.replicate ql 0,_,_,rfl,by simp,by simp,by omega,akp,by simp,lx',cV.rep (by decide) _,by simp [V],auz⟩
 rintro q _ ⟨v4,X,Q,rows,clk,rfl,ahG,an6,hq,hXl,hQl,lX,lQ,hVX,hXU⟩
 refine aQ [4,9,10,11,12,13,76] ?_
 refine bJ ?_ ?_<;>intro h
 ·have PZ:0<q:=by simp at h;omega
  obtain⟨i,rfl⟩:∃i,q=i+1:=⟨q-1,by omega⟩
  clear h
  have ei:((i+1:Nat):Int)-1=i:=by omega
  rw [ei]
  have auA:V 4294967296 ((X.drop i).take (m+3))<4294967296*V 4294967296 y':=by
   have h1:=kQ (b:=4294967296) (X.drop i) (m+3) (by simp;omega)
   have h2:=bM (b:=4294967296) (by decide) ((lX.drop i).drop (m+3))
   have h3:=Int.mul_nonneg (show (0:Int)≤4294967296^(m+3)from Int.le_of_lt (Int.pow_pos (by decide))) h2
   have h4:V 4294967296 (X.drop i)=nth X i+4294967296*V 4294967296 (X.drop (i+1)):=by rw [fE (by omega)];rfl
   have h5:=lX.nth (i:=i) (by omega)
   omega
  have ahI:=fun(rows:Pm.Rows) clk hr=>SK (id:=58) (ver:=0) (off:=i) (m:=m) X y' rows clk hr auy (by omega) ly' azU lX (by omega) (by omega) auA
  have e6:(i:Int)+((m:Int)+2)+1=((i+m+3:Nat):Int):=by omega
  have e7:((i:Int)+(m:Int)+3).toNat-i=m+3:=by omega
  refine lF ?_
  refine W.b7 (fun K hK=>?_)
  simp (disch:=omega) [gw,ahG,hXl,e6,e7]
  refine asT (ahI _ _ ahG) ?_
  rintro r rows' gZ ⟨D,rfl,rfl,rfl,hDl,lD,hDd,hDv⟩
  have iX:=ads (g:=V 4294967296 ((X.drop i).take (m+3))/V 4294967296 y') lX lD azV ahF (by omega) hDl hDd rfl hDv hXU
  have hg0:0≤V 4294967296 ((X.drop i).take (m+3))/V 4294967296 y':=Int.ediv_nonneg (bM (by decide) ((lX.drop i).take _)) (Int.le_of_lt ahF)
  have X9:V 4294967296 ((X.drop i).take (m+3))/V 4294967296 y'<4294967296:=Int.ediv_lt_of_lt_mul ahF auA
  generalize V 4294967296 ((X.drop i).take (m+3))/V 4294967296 y'=g at *
  have azX:(X.take i++D).length=ql+m+2:=by simp [hDl];omega
  have lX2:cV 4294967296 (X.take i++D):=cV.append.2 ⟨lX.take i,lD⟩
  obtain⟨azY,azZ⟩:=iX
  generalize X.take i++D=X2 at *
  simp (disch:=omega) [gw,an6,hQl]
  refine W.lw [4,9,10,11,12,13] hK ?_;clear hK K;simp
  refine W.b7 (fun K hK=>?_);simp (disch:=omega) [gw]
  refine hK _ ⟨i,_,aB _ [4,9,10,11,12,13],by omega,v4,X2,Q.set i g,_,_,rfl,by simp,by simp,by omega,azX,by simp [hQl],lX2,lQ.set ⟨hg0,X9⟩,?_,azY⟩
  rw [azZ,fE (l:=Q.set i g) (i:=i) (by simp;omega),eZ (by omega),List.drop_set_of_lt (by omega),←hVX]
  simp only [V,Int.pow_succ]
  generalize V 4294967296 (Q.drop (i+1))=vq at *
  grind
 ·have PZ:q=0:=by simp at h;omega
  subst PZ
  simp only [List.drop_zero,Int.pow_zero,Int.one_mul]at hVX hXU
  have hX0:=bM (b:=4294967296) (by decide) lX
  have hQe:V 4294967296 x'/V 4294967296 y'=V 4294967296 Q:=by
   have e:(V 4294967296 Q+1)*V 4294967296 y'=V 4294967296 Q*V 4294967296 y'+V 4294967296 y':=by grind
   rw [Int.ediv_eq_iff_of_pos ahF]
   constructor<;>omega
  have hRe:V 4294967296 x'%V 4294967296 y'=V 4294967296 X:=by
   have h3:=Int.emod_def (V 4294967296 x') (V 4294967296 y')
   rw [hQe,Int.mul_comm]at h3
   omega
  have hXt:V 4294967296 (X.take (m+2))=V 4294967296 X:=by
   have h1:=kQ (b:=4294967296) X (m+2) (by omega)
   have h2:=bM (b:=4294967296) (by decide) (lX.drop (m+2))
   have h3:=bM (b:=4294967296) (by decide) (lX.take (m+2))
   have h4:(0:Int)<4294967296^(m+2):=Int.pow_pos (by decide)
   rcases Int.lt_or_le 0 (V 4294967296 (X.drop (m+2)))with h5 | h5
   ·exfalso
    have:=Int.mul_le_mul_of_nonneg_left (show 1≤V 4294967296 (X.drop (m+2))by omega) (Int.le_of_lt h4)
    omega
   ·have:V 4294967296 (X.drop (m+2))=0:=by omega
    rw [this]at h1;omega
  rw [hQe,hRe,←hXt]
  have zQ:=bL hQl
  have zX:=bL hXl
  have qG:=dQ Q (by omega)
  rw [wG lQ]at qG
  have az0:=ahz (X.take (m+2)) s ahE (by simp;omega) (lX.take _)
  refine fA ?_
  refine W.freeze 71 (by simp [an6]) (fun K hK=>?_)
  simp [an6,zQ]
  refine hK _ ?_;clear hK K
  refine W.freeze 58 (by simp [ahG]) (fun K hK=>?_)
  simp [ahG,zX]
  refine hK _ ?_;clear hK K
  have e8:((m:Int)+2).toNat=m+2:=by omega
  refine nU ?_
  refine aC qG ?_
  simp (disch:=omega) [gw,hXl,e8]
  refine cN [4,5,6] az0 ?_
  exact cC
theorem JF{A B:Int}(hB:0<B)(hA:0≤A):(A%B=0→(-A)/B = -(A/B)∧(-A)%B=0)∧(0<A%B→(-A)/B = -(A/B+1)∧(-A)%B=B-A%B):=by
 have h1:=Int.mul_ediv_add_emod A B
 have h2:=Int.emod_lt_of_pos A hB
 constructor
 ·intro h
  refine(Int.ediv_emod_unique hB).2 ⟨?_,by omega,by omega⟩
  rw [Int.mul_neg];omega
 ·intro h
  refine(Int.ediv_emod_unique hB).2 ⟨?_,by omega,by omega⟩
  rw [Int.mul_neg,Int.mul_add];omega
theorem adt(n m:Bool){A B:Int}(hB:0<B)(hA:0≤A) :
  (¬(n=true∧0<A%B)→(if n=true then -A else A)/(if m=true then -B else B)=(if (n != m)=true then -(A/B)else A/B)∧(if n=true then -A else A)%(if m=true then -B else B)=A%B) ∧
  (n=true→0<A%B→(if n=true then -A else A)/(if m=true then -B else B)=(if (n != m)=true then -(A/B+1)else A/B+1)∧(if n=true then -A else A)%(if m=true then -B else B)=B-A%B):=by
 obtain⟨p1,p2⟩:=JF hB hA
 have h0:=Int.emod_nonneg A (show B≠0 by omega)
 cases n<;>cases m<;>simp [Int.ediv_neg,Int.emod_neg]
 ·exact⟨fun h=>by have:=p1 (by omega);exact⟨this.1,by omega⟩,p2⟩
 ·exact⟨fun h=>by have:=p1 (by omega);exact⟨by omega,by omega⟩,fun h=>by have:=p2 h;exact⟨by omega,this.2⟩⟩
theorem adu(n:Bool)(l:List Int)(h:r9 l):aE env.P 143 [IV n l] (I (V 4294967296 l)):=by
 refine cD [(0,IV n l)] Tryz.func143 ?_
 refine aA [1,2] ?_
 refine jC ?_
 refine cS (nM l h.len h.x6) ?_
 refine aC (gJ _ (qX h) false) ?_
 simp (disch:=omega) [gw]
 refine bH [2] ?_
 exact cC
theorem adw(n:Bool)(l:List Int):aE env.P 258 [IV n l] (.int .i64 (if l.length=0 then 0 else if n=true then -1 else 1)):=by
 refine cD [(0,IV n l)] Tryz.func258 ?_
 refine bU [1] ?_
 refine W.block ?_
 refine aA [1,3] ?_
 refine bJ ?_ ?_<;>intro h
 ·have h:l = []:=by simp at h;exact h
  subst h
  refine aA [2] ?_
  exact cC
 ·have h:l.length≠0:=by simp at h;simpa using h
  rw [if_neg h]
  refine aA [8] ?_
  refine bJ ?_ ?_<;>intro h
  ·subst h
   refine aA [2] ?_
   exact cC
  ·subst h
   refine W.skip ?_
   refine aA [2] ?_
   exact cC
theorem ahJ(p:RP)(hp:p.length<9223372036854775808):aE env.P 83 [Pg p] (.int .i64 ((p.length:Int)-1)):=by
 refine cD [(0,Pg p)] Tryz.func83 ?_
 refine aA [0] ?_
 refine aA [2] ?_
 exact cC
theorem NS(p:RP)(h:rB p):aE env.P 145 [Pg p] (I (lead (m7 p))):=by
 have hl:=h.len
 have gB:=bV (p.map gv)
 rw [List.length_map]at gB
 refine cD [(0,Pg p)] Tryz.func145 ?_
 refine aA [0,2] ?_
 refine W.seq ?_
 refine aR [0,2] (gK p h) ?_
 rw [show aO (p.map gv)=m7 p from rfl]at gB ⊢
 generalize m7 p=x at *
 refine aA [0,2,7] ?_
 refine bJ ?_ ?_<;>intro h
 ·have h:x = []:=by simp at h;exact h
  subst h
  refine aA [2] ?_
  refine W.ret ?_
  simp [go]
  exact⟨Int.le_refl 0,rfl⟩
 ·have h:x ≠ []:=by simp at h;exact h
  have pM:0<x.length:=List.length_pos_iff.2 h
  refine W.skip ?_
  have e1:((x.length:Int)-1).toNat=x.length-1:=by omega
  refine W.sr ?_
  simp (disch:=omega) [gw,e1]
  refine bH [2] ?_
  refine W.ret ?_
  simp [go,lead]
theorem NT{x:Int}{k:Nat}(h0:0≤x)(h:x<4294967296^k):sz LL x≤k:=dY gF (by
 have e:((4294967296^k:Nat):Int)=(4294967296:Int)^k:=Int.natCast_pow 4294967296 k
 show x.natAbs<4294967296^k
 omega)
theorem VT{x:Int}{k:Nat}(h0:0≤x)(h:sz LL x≤k)(hk:k<1099511627776):r9 (aS LL x.toNat):=⟨fI gF _,by
 have e:x.natAbs=x.toNat:=by omega
 unfold sz at h
 rw [e]at h
 omega⟩
theorem adx{x:Int}(h0:0≤x):V 4294967296 (aS LL x.toNat)=x:=by
 have:=kP gF x.toNat
 rw [show((LL:Nat):Int)=4294967296 from rfl]at this
 rw [this];omega
theorem ahK{x:Int}(h0:0≤x):(0<(aS LL x.toNat).length)↔0<x:=by
 rw [List.length_pos_iff,Ne,eO gF];omega
theorem NU(n m:Bool)(l k:List Int)(EU:r9 l)(h':r9 k)(hl:l.length<1099511627774)(hk:k.length<1099511627774) :
  aE env.P 260 [IV n l,IV m k] (if V 4294967296 k=0 then .dU [I 0,I 0, .int .i64 2]else .dU [I (iv n l/iv m k),I (iv n l%iv m k), .int .i64 0]):=by
 have p1:=qX EU
 have p2:=qX h'
 refine cD [(0,IV n l),(1,IV m k)] Tryz.func260 ?_
 refine aA [2,3,4,5] ?_
 by_cases h0:V 4294967296 k=0
 ·rw [if_pos h0]
  refine aR [2,3,4,5,6,7,8] (NR l k EU h' h0) ?_
  refine aQ [2,3,4,5,6,7,8,19] ?_
  refine bJ ?_ ?_<;>intro h
  ·refine aA [4,5,6] ?_
   refine W.ret ?_
   simp [go]
   rfl
  ·cases h
 ·rw [if_neg h0]
  have hB:0<V 4294967296 k:=by omega
  have UM:=DJ l k EU h' h0 hl hk
  obtain⟨d1,d2⟩:=adt n m hB p1
  rw [show(if n=true then -V 4294967296 l else V 4294967296 l)=iv n l from rfl,show(if m=true then -V 4294967296 k else V 4294967296 k)=iv m k from rfl]at d1 d2
  have q0:=Int.ediv_nonneg p1 p2
  have r0:=Int.emod_nonneg (V 4294967296 l) h0
  have r1:=Int.emod_lt_of_pos (V 4294967296 l) hB
  have o8:sz LL (V 4294967296 l/V 4294967296 k)≤l.length:=NT q0 (Int.lt_of_le_of_lt (Int.ediv_le_self _ p1) (oS (by decide) EU.x6))
  have az1:sz LL (V 4294967296 l%V 4294967296 k)≤k.length:=NT r0 (Int.lt_trans r1 (oS (by decide) h'.x6))
  refine aR [2,3,4,5,6,7,8] UM ?_
  generalize V 4294967296 l/V 4294967296 k=Q at *
  generalize V 4294967296 l%V 4294967296 k=R at *
  refine aQ [2,3,4,5,6,7,8,19] ?_
  refine bJ ?_ ?_<;>intro h
  ·cases h
  refine W.skip ?_
  refine jC ?_
  refine cS (gJ Q q0 (n != m)) ?_
  refine cN [2,3,4,5,7,8] (gJ R r0 false) ?_
  refine W.iB (fun σ=>∃(rows:Pm.Rows) (clk:Nat),σ=⟨fa [(4, .ptr 4 2 0 0),(5, .ptr 5 3 0 0)],rows,clk⟩∧rows 4=some ⟨2,38,2,[ie (iv n l/iv m k)]⟩∧rows 5=some ⟨3,38,2,[ie (iv n l%iv m k)]⟩) ?_ ?_
  ·
   by_cases an7:n=true∧0<R
   ·obtain⟨rfl,hR⟩:=an7
    obtain⟨e1,e2⟩:=d2 rfl hR
    rw [e1,e2]
    have hdp:=(ahK r0).2 hR
    have hQl:=VT q0 o8 EU.len
    have hRl:=VT r0 az1 h'.len
    have auB:=VE (aS LL Q.toNat) [1] hQl.len (by simp) hQl.x6 (cV.cons.2 ⟨by decide,cV.nil⟩)
    rw [adx q0,n9]at auB
    have auC:=I9 k (aS LL R.toNat) h'.len hRl.len h'.x6 hRl.x6
    rw [adx r0,R9,if_neg (by omega)]at auC
    refine W.eJ (fun σ=>∃(rows:Pm.Rows) (clk:Nat),σ=⟨fa [(2, .ptr 2 0 0 0),(3, .ptr 3 1 0 0),(4, .ptr 4 2 0 0),(5, .ptr 5 3 0 0),(7,N Q),(8,N R),(38, .bool true)],rows,clk⟩∧rows 2=some ⟨0,38,2,[[.bool true,us l]]⟩∧rows 3=some ⟨1,38,2,[[.bool m,us k]]⟩∧rows 4=some ⟨2,38,2,[ie (if true=m then Q else -Q)]⟩∧rows 5=some ⟨3,38,2,[ie R]⟩) (fun K hK=>?_) ?_
    ·simp (disch:=omega) [gw,hdp]
     exact hK _ _ (aB _ [2,3,4,5,7,8,38]) ⟨_,_,rfl,by simp,by simp,by simp,by simp⟩
    rintro _ ⟨rows,clk,rfl,bX,cH,c9,dM⟩
    refine bJ ?_ ?_<;>intro h
    ·refine aR [2,3,4,5,7,8] auB ?_
     refine W.sr ?_
     simp (disch:=omega) [gw,cH]
     refine cN [2,3,4,5,7,8] auC ?_
     refine W.b7 (fun K hK=>?_)
     simp (disch:=omega) [gw,bX,cH]
     refine aC (gJ (Q+1) (by omega) (!m)) ?_
     simp (disch:=omega) [gw]
     refine aC (gJ (V 4294967296 k-R) (by omega) false) ?_
     simp (disch:=omega) [gw,c9,dM]
     exact hK _ ⟨_,aB _ [4,5],_,_,rfl,by cases m<;>simp,by simp⟩
    ·cases h
   ·obtain⟨e1,e2⟩:=d1 an7
    rw [e1,e2]
    refine W.eJ (fun σ=>∃(rows:Pm.Rows) (clk:Nat),σ=⟨fa [(4, .ptr 4 2 0 0),(5, .ptr 5 3 0 0),(38, .bool false)],rows,clk⟩∧rows 4=some ⟨2,38,2,[ie (if (n != m)=true then -Q else Q)]⟩∧rows 5=some ⟨3,38,2,[ie R]⟩) (fun K hK=>?_) ?_
    ·cases n with
     | false =>
      simp (disch:=omega) [gw]
      exact hK _ _ (aB _ [4,5,38]) ⟨_,_,rfl,by cases m<;>simp,by simp⟩
     | true =>
      have hR:R=0:=by simp at an7;omega
      subst hR
      simp (disch:=omega) [gw]
      exact hK _ _ (aB _ [4,5,38]) ⟨_,_,rfl,by cases m<;>simp,by simp⟩
    rintro _ ⟨rows,clk,rfl,c9,dM⟩
    refine bJ ?_ ?_<;>intro h
    ·cases h
    ·refine W.skip ?_
     exact⟨_,aB _ [4,5],_,_,rfl,c9,dM⟩
  rintro _ ⟨rows,clk,rfl,c9,dM⟩
  generalize iv n l/iv m k=q at *
  generalize iv n l%iv m k=r at *
  refine W.sd ?_
  simp (disch:=omega) [gw,c9,dM]
  refine bA (by kernel_rfl) ?_
  simp (disch:=omega) [gw,c9,dM]
  rw [if_pos (by kernel_rfl)]
  simp (disch:=omega) [gw,c9,dM]
  refine bA (by kernel_rfl) ?_
  simp (disch:=omega) [gw]
  refine bH [4,5,6] ?_
  exact cC
theorem SM(n m:Bool)(l k:List Int)(h:r9 l)(h':r9 k)(hl:l.length<1099511627774)(hk:k.length<1099511627774)(h0:V 4294967296 k≠0) :
  aE env.P 234 [IV n l,IV m k] (if iv n l%iv m k=0 then .dU [I (iv n l/iv m k), .int .i64 0]else .dU [I 0, .int .i64 3]):=by
 have UM:=NU n m l k h h' hl hk
 rw [if_neg h0]at UM
 have FV:0≤iv n l%iv m k:=Int.emod_nonneg _ (by unfold iv;split<;>omega)
 generalize iv n l/iv m k=q at *
 generalize iv n l%iv m k=r at *
 have hrn:(aS LL r.natAbs = [])↔r=0:=by rw [eO gF];omega
 refine cD [(0,IV n l),(1,IV m k)] Tryz.func234 ?_
 refine aA [2,3,4] ?_
 refine aR [4,6,7,8] UM ?_
 refine aQ [4,6,7,8,17] ?_
 refine bJ ?_ ?_<;>intro h
 ·cases h
 refine W.skip ?_
 refine aQ [4,6,23] ?_
 by_cases hr:r=0
 ·rw [if_pos hr]
  refine bJ ?_ ?_<;>intro h
  ·exfalso;have h2:=hrn.2 hr;rw [h2]at h;simp at h
  ·refine W.skip ?_
   refine aA [4,5] ?_
   exact cC
 ·rw [if_neg hr]
  refine bJ ?_ ?_<;>intro h
  ·refine aA [4,5] ?_
   refine W.ret ?_
   simp [go]
   rfl
  ·exfalso;simp at h;exact hr (hrn.1 h)
def bO(l:List Int):Nat:=l.foldl (fun g c=>Nat.gcd g c.natAbs) 0
theorem gcd_one:∀l:List Int,l.foldl (fun g c=>Nat.gcd g c.natAbs) 1=1
 | []=>rfl
 | c::l=>by simp only [List.foldl_cons,Nat.gcd_one_left];exact gcd_one l
theorem SN(l:List Int)(i:Nat)(h:bO (l.take i)=1):bO l=1:=by
 unfold bO at *
 rw [←List.take_append_drop i l,List.foldl_append,h]
 exact gcd_one _
theorem ZZ(l:List Int)(i:Nat)(h:i<l.length):bO (l.take (i+1))=Nat.gcd (bO (l.take i)) (nth l i).natAbs:=by
 unfold bO
 rw [bF h,List.foldl_append];rfl
theorem auD(x:Nat):N (x:Int)=us (aS LL x):=rfl
theorem DK{x k:Nat}(h:x<4294967296^k):(aS LL x).length≤k:=AR gF h
theorem NV(p:RP)(K0:Nat)(hK0:K0<1099511627774)(hp:∀c∈p,cV 4294967296 c.2∧c.2.length≤K0)(hpl:p.length<1099511627776):aE env.P 233 [Pg p] (I (bO (p.map gv))):=by
 have hng:∀c∈p,(gv c).natAbs=(V 4294967296 c.2).toNat:=fun c hc=>by
  have:=bM (b:=4294967296) (by decide) (hp c hc).1
  unfold gv iv;split<;>omega
 refine cD [(0,Pg p)] Tryz.func233 ?_
 refine aA [0,2] ?_
 refine aA [0,2,3] ?_
 refine W.R3 3 (us []) (by simp) rfl (fun K hK=>?_)
 refine W.lw [0,2,3] hK ?_;clear hK K;simp
 have az2:∀i,i<p.length→(nth (p.map gv) i).natAbs=(V 4294967296 (nth p i).2).toNat:=fun i hi=>by rw [uU];exact hng _ (bN hi)
 refine W.iB (fun σ=>∃(rows:Pm.Rows) (clk:Nat),σ=⟨fa [(2, .ptr 2 0 0 0),(3,us (aS LL (bO (p.map gv))))],rows,clk⟩∧rows 2=some ⟨0,38,2,[[.bool false, .nil]]⟩∧bO (p.map gv)<4294967296^K0) ?_ ?_
 ·
  refine aA [2,3,10,11,12] ?_
  refine W.block ?_
  refine W.bE (fun q σ=>∃(i:Nat) (rows:Pm.Rows) (clk:Nat),σ=⟨fa [(2, .ptr 2 0 0 0),(3,us (aS LL (bO ((p.map gv).take i)))),(10,Pg p),(11, .int .i64 p.length),(12, .int .i64 i)],rows,clk⟩∧rows 2=some ⟨0,38,2,[[.bool false, .nil]]⟩∧q=p.length-i∧i≤p.length∧bO ((p.map gv).take i)<4294967296^K0) p.length ?_ ?_
  ·exact⟨_,Gh.fr [(2, .ptr 2 0 0 0),(3,us (aS LL (bO ((p.map gv).take 0)))),(10,Pg p),(11, .int .i64 p.length),(12, .int .i64 (0:Nat))] (by simp [bO,mE]),0,_,_,rfl,by simp,by omega,by omega,by simp [bO];exact Nat.pow_pos (by decide)⟩
  rintro q _ ⟨i,rows,clk,rfl,bX,hq,hi,K5⟩
  refine bU [2,3,10,11,12,13] ?_
  refine bJ ?_ ?_<;>intro h
  ·have hi:i<p.length:=by simp at h;omega
   obtain⟨vP,hc2⟩:=hp _ (bN hi)
   have hV0:=bM (b:=4294967296) (by decide) vP
   have hVl:=oS (b:=4294967296) (by decide) vP
   obtain⟨x0,pM⟩:=Int.eq_ofNat_of_zero_le hV0
   have NW:=nM (nth p i).2 (by omega) vP
   rw [pM,auD]at NW
   have hxb:x0<4294967296^K0:=by
    have e:((4294967296^(nth p i).2.length:Nat):Int)=(4294967296:Int)^(nth p i).2.length:=Int.natCast_pow 4294967296 _
    have e2:4294967296^(nth p i).2.length≤4294967296^K0:=Nat.pow_le_pow_right (by decide) hc2
    omega
   have hgs:=ZZ (p.map gv) i (by simpa using hi)
   rw [az2 i hi,pM]at hgs
   simp only [Int.toNat_natCast]at hgs
   refine lF ?_
   refine W.sr ?_
   simp (disch:=omega) [gw,bX]
   refine bH [2,3,5,10,11,12] ?_
   refine aR [2,3,6,10,11,12] NW ?_
   refine W.seq ?_
   refine W.block ?_
   refine W.bE (fun q σ=>∃(g x:Nat) (rows:Pm.Rows) (clk:Nat),σ=⟨fa [(2, .ptr 2 0 0 0),(3,us (aS LL g)),(6,us (aS LL x)),(10,Pg p),(11, .int .i64 p.length),(12, .int .i64 i)],rows,clk⟩∧rows 2=some ⟨0,38,2,[[.bool false, .nil]]⟩∧q=x∧Nat.gcd g x=bO ((p.map gv).take (i+1))∧g<4294967296^K0∧x<4294967296^K0) x0 ?_ ?_
   ·exact⟨_, .refl,bO ((p.map gv).take i),x0,_,_,rfl,by simp [bX],rfl,hgs.symm,K5,hxb⟩
   rintro q2 _ ⟨g,x,rows,clk,rfl,bX,hq2,hgx,hg,hx⟩
   refine aQ [2,3,6,10,11,12,21] ?_
   refine bJ ?_ ?_<;>intro h
   ·have h1:aS LL x ≠ []:=by simp at h;exact List.length_pos_iff.1 h
    have pM:x≠0:=fun h2=>h1 ((eO gF).2 h2)
    have hlg:=DK hg
    have hlx:=DK hx
    have UM:=DJ (aS LL g) (aS LL x) ⟨fI gF _,by omega⟩ ⟨fI gF _,by omega⟩ (by rw [show(4294967296:Int)=((LL:Nat):Int)from rfl,kP gF];omega) (by omega) (by omega)
    rw [show(4294967296:Int)=((LL:Nat):Int)from rfl,kP gF,kP gF,←Int.natCast_emod,auD]at UM
    have hm:=Nat.mod_lt g (show 0<x by omega)
    have hgr:Nat.gcd x (g%x)=Nat.gcd g x:=by rw [Nat.gcd_comm x,←Nat.gcd_rec,Nat.gcd_comm]
    refine W.skip ?_
    refine W.block ?_
    refine aR [2,6,8,10,11,12] UM ?_
    refine W.b7 (fun K hK=>?_);simp (disch:=omega) [gw]
    refine hK _ ⟨g%x,_,aB _ [2,3,6,10,11,12],by omega,x,g%x,_,_,rfl,by simp [bX],rfl,by rw [hgr,hgx],hx,by omega⟩
   ·have h1:aS LL x = []:=by simp at h;exact h
    have pM:x=0:=(eO gF).1 h1
    subst pM
    rw [Nat.gcd_zero_right]at hgx
    refine fA ?_
    refine W.eJ (fun σ=>∃(b:Bool) (rows:Pm.Rows) (clk:Nat),σ=⟨fa [(2, .ptr 2 0 0 0),(3,us (aS LL g)),(10,Pg p),(11, .int .i64 p.length),(12, .int .i64 i),(39, .bool b)],rows,clk⟩∧rows 2=some ⟨0,38,2,[[.bool false, .nil]]⟩∧(b=true→g=1)) (fun K hK=>?_) ?_
    ·by_cases h2:(aS LL g).length=1
     ·obtain⟨w,hw⟩:∃w,aS LL g = [w]:=match aS LL g,h2 with | [w],_=>⟨w,rfl⟩
      have hgv:=kP gF g
      rw [hw,n9]at hgv
      rw [hw]at hK ⊢
      have hnw:nth [w] 0=w:=rfl
      simp (disch:=omega) [gw,hnw]
      exact hK _ _ (aB _ [2,3,10,11,12,39]) ⟨_,_,_,rfl,by simp [bX],fun h3=>by simp at h3;omega⟩
     ·have h2':((aS LL g).length:Int)≠1:=by omega
      have hb:(((aS LL g).length:Int)==1)=false:=by simpa using h2'
      simp (disch:=omega) [gw,hb,h2]
      exact hK _ _ (aB _ [2,3,10,11,12,39]) ⟨_,_,_,rfl,by simp [bX],fun h3=>by cases h3⟩
    rintro _ ⟨b,rows,clk,rfl,bX,hb⟩
    refine bJ ?_ ?_<;>intro h
    ·have X9:=hb h
     subst X9
     have uP:=SN _ _ hgx.symm
     refine fA ?_
     rw [uP]
     exact⟨_,aB _ [2,3],rows,clk,rfl,bX,by rw [uP]at *;exact hg⟩
    ·refine W.skip ?_
     subst hgx
     refine W.b7 (fun K hK=>?_);simp (disch:=omega) [gw]
     refine hK _ ⟨p.length-(i+1),_,aB _ [2,3,10,11,12],by omega,i+1,_,_,rfl,by simp [bX],by omega,by omega,hg⟩
  ·have hi:i=p.length:=by simp at h;omega
   rw [List.take_of_length_le (by simp;omega)]at K5 ⊢
   refine fA ?_
   exact⟨_,aB _ [2,3],rows,clk,rfl,bX,K5⟩
 rintro _ ⟨rows,clk,rfl,bX,K5⟩
 have hlg:=DK K5
 have NW:=nM (aS LL (bO (p.map gv))) (by omega) (fI gF _)
 rw [show(4294967296:Int)=((LL:Nat):Int)from rfl,kP gF]at NW
 have auF:=gJ (bO (p.map gv):Int) (by omega) false
 refine jC ?_
 refine cS NW ?_
 refine aC auF ?_
 simp (disch:=omega) [gw,bX]
 refine bH [2] ?_
 exact cC
end Go.Proofs.YtiobceocpabjdaaGreat
