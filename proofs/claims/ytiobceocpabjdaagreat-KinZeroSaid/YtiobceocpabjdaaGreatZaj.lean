import Derived.Test.YtiobceocpabjdaaGreatZae
import Derived.Test.YtiobceocpabjdaaGreatZah
import Derived.Test.YtiobceocpabjdaaGreatZai
set_option linter.unusedSimpArgs false
set_option linter.unusedVariables false
namespace Go.Proofs.YtiobceocpabjdaaGreat
open Go Pm
def WE.c(w:WE):CE:=⟨w.t,false,w.p,w.w⟩
theorem YX{b:Bool}{n:A9}{z:Bool}{L:List WE}{M:List CE}{e:Int}(hl:L.length<1000000)(hz:z=true→L = [])
  (hS:aF env.P 35 [aN lH (L.map WE.c)] (aN lH M)) :
  fO env.P 47 [] 95 12 (co b n z L e) (co b n z L e) (aN lH M):=by
 refine fD (E:=env) (fun _=>0) [] Tryz.func47 rfl (by kernel_rfl) (by kernel_rfl) (show 1≤23 by decide) (by intro q;simp) ?_
 intro id ver kP YT eJ
 refine aA [0] ?_
 refine aA [0,3] ?_
 refine W.nil 3 3 82 7 (by simp) (by decide) (fun K hK=>?_)
 refine W.lw [0,3] hK ?_;clear hK K;simp
 refine W.seq ?_
 refine W.fA (fun σ=>∃(s:PV) (v3:Nat) (rows:Pm.Rows) (clk:Nat),σ=⟨fa [(3, .own 3 v3 0 0),(9,s),(10, .int .i64 L.length),(11, .int .i64 0)],rows,clk⟩∧(0<L.length→s=aN MW L)∧rows 3=some ⟨v3,82,7,[]⟩∧rows (id+1000000)=some ⟨ver,95,12,[co b n z L e]⟩∧(∀j,j≠id→rows (j+1000000)=kP (j+1000000))) (fun K hK=>?_) ?_
 ·cases z
  ·simp (disch:=omega) [gw,eJ,fZ]
   exact hK _ _ (aB _ [3,9,10,11]) ⟨_,_,_,_,rfl,fun _=>rfl,by simp,by simp [eJ,fZ],by intro j hj;simp [hj]⟩
  ·obtain rfl:=hz rfl
   simp (disch:=omega) [gw,eJ,fZ]
   exact hK _ _ (aB _ [3,9,10,11]) ⟨_,_,_,_,rfl,by simp,by simp,by simp [eJ,fZ],by intro j hj;simp [hj]⟩
 clear eJ
 rintro _ ⟨s,v3,rows,clk,rfl,hs,b8,eJ,kX⟩
 refine W.block ?_
 refine W.bE (fun k σ=>∃(i v3:Nat) (rows:Pm.Rows) (clk:Nat),σ=⟨fa [(3, .own 3 v3 0 i),(9,s),(10, .int .i64 L.length),(11, .int .i64 i)],rows,clk⟩∧i+k=L.length∧rows 3=some ⟨v3,82,7,emap lH ((L.map WE.c).take i)⟩∧rows (id+1000000)=some ⟨ver,95,12,[co b n z L e]⟩∧(∀j,j≠id→rows (j+1000000)=kP (j+1000000))) L.length ?_ ?_
 ·exact⟨_,aB _ [3,9,10,11],0,v3,rows,clk,rfl,by omega,by simp [b8,emap],eJ,kX⟩
 clear b8 eJ kX rows clk v3
 rintro k _ ⟨i,v3,rows,clk,rfl,zT,b8,eJ,kX⟩
 refine bV [3,9,10,11,12] ?_
 refine bJ ?_ ?_<;>intro h
 ·have hi:i<L.length:=by simp at h;omega
  obtain rfl:=hs (by omega)
  have i9:(L.map WE.c).take (i+1)=(L.map WE.c).take i ++ [(nth L i).c]:=by
   rw [List.take_succ_eq_append_getElem (by simpa using hi),cB hi];simp
  have hlen:((L.map WE.c).take i).length=i:=by simp;omega
  generalize hT':(L.map WE.c).take (i+1)=T' at *
  generalize (L.map WE.c).take i=T at *
  generalize hw:nth L i=w at *
  refine kY ?_
  refine W.sr ?_
  simp (disch:=omega) [gw,hi,hw,mL]
  refine bG [3,5,9,10,11] ?_
  refine W.cA (fun K hK=>?_);simp (disch:=omega) [gw,b8,hlen];refine W.lw [3,9,10,11] hK ?_;clear hK K;simp
  refine W.cA (fun K hK=>?_);simp (disch:=omega) [gw]
  refine hK _ ⟨k-1,_,aB _ [3,9,10,11],by omega,i+1,_,_,_,rfl,by omega,by rw [hT',i9];simp [emap,aN,hlen,iP,WE.c],by simp [eJ],by intro j hj;simp [hj,kX]⟩
 ·have hi:i=L.length:=by simp at h;omega
  subst hi
  have hT:(L.map WE.c).take L.length=L.map WE.c:=List.take_of_length_le (by simp)
  rw [hT]at b8
  refine fH ?_
  refine W.freeze 3 (by simp [b8]) (fun K hK=>?_)
  simp [b8]
  rw [hT]
  refine hK _ ?_;clear hK K
  refine aR [2] hS ?_
  refine W.ret ?_
  simp [go,eJ]
  exact fun j hj=>by simp [hj,kX]
def evc(w:WE):List PV:=[.int .i64 w.t.k, .int .i64 w.t.a, .int .i64 w.t.b, .int .i64 w.t.c, .int .i64 w.t.d, .sl w.f.y, .bool w.f.s, .sl w.f.d, .bool w.f.s', .sl w.f.d', .bool w.f.u, .sl w.f.e, .bool w.f.u', .sl w.f.e']
theorem acK(w:WE):(evc w).all bI=true:=rfl
@[simp] theorem ank{l:List WE}:bH 14 (emap evc l)=True:=cH fun _=>rfl
@[simp] theorem ajJ{v e n:Nat}{l:List WE}:cW (some ⟨v,e,n,emap evc l⟩)=True:=bU acK
theorem RL{b:Bool}{n r:A9}{z:Bool}{L M:List WE}{e:Int}
  (hN:fO env.P 51 [] 95 12 (co b n z L e) (co b n false M e) (.dU [.ag (b9 r), .bool false])) :
  fO env.P 52 [] 95 12 (co b n z L e) (co b n false M e) (.sl []):=by
 refine fD (E:=env) (fun _=>0) [] Tryz.func52 rfl (by kernel_rfl) (by kernel_rfl) (show 1≤52 by decide) (by intro q;simp) ?_
 intro id ver rows clk eJ
 have E7:=gG b n z L e
 have YW:=gG b n false M e
 simp only [fF]at hN
 refine aA [0] ?_
 refine W.sr ?_
 simp (disch:=omega) [gw,eJ]
 refine iY hN rfl rfl E7 YW (by simp [eJ]) ?_
 simp (disch:=omega) [gw]
 refine bG [0,3,4] ?_
 refine aP [0,3,16] ?_
 refine bJ ?_ ?_<;>intro h
 ·refine aA [2] ?_
  refine W.L0 2 (.sl []) (by simp) rfl (fun K hK=>?_)
  refine W.lw [2] hK ?_;clear hK K;simp
  refine W.ret ?_
  simp [go,eJ]
  exact fun j hj h=>absurd h hj
 ·simp at h
def WE.new(s:CE):WE:=⟨s.t,s.p,s.w,false,false,A9.no⟩
def wek(z:Bool)(w:WE):List PV:=[.int .i64 w.t.k, .int .i64 w.t.a, .int .i64 w.t.b, .int .i64 w.t.c, .int .i64 w.t.d,Po w.p, .int .i64 w.w, .bool w.k, .bool w.o,sc z w.f.y, .bool w.f.s,sc z w.f.d, .bool w.f.s',sc z w.f.d', .bool w.f.u,sc z w.f.e, .bool w.f.u',sc z w.f.e']
theorem UY(z:Bool)(w:WE):wek z w = [.int .i64 w.t.k, .int .i64 w.t.a, .int .i64 w.t.b, .int .i64 w.t.c, .int .i64 w.t.d,Po w.p, .int .i64 w.w, .bool w.k, .bool w.o,sc z w.f.y, .bool w.f.s,sc z w.f.d, .bool w.f.s',sc z w.f.d', .bool w.f.u,sc z w.f.e, .bool w.f.u',sc z w.f.e']:=rfl
theorem agR{b:Bool}{n t:A9}{z later:Bool}{L:List WE}{e:Int}{C S:List CE}{G:CE→WE}(hl:S.length<1000000)(hSz:∀s∈S,s.z=false)
  (hS:aF env.P 35 [aN lH C] (aN lH S)) (hL:aF env.P 112 [.sl [b9 t]] (.dU [.ag (b9 t), .bool true]))
  (hF:later=false → ∀s∈S,G s=WE.new s)
  (hT:later=true → ∀s∈S,∃y:Bool,(y=true→(G s).f=A9.no)∧fO env.P 191 [.ag (lH s), .ag (b9 t)] 95 12 (co b n z L e) (co b n z L e) (.ag (wek y (G s)))) :
  fO env.P 109 [.ag (b9 t), .bool later,aN lH C] 95 12 (co b n z L e) (co true t false (S.map G) e) (.dU []):=by
 simp only [fF]at hL hT ⊢
 refine fD (E:=env) (fun _=>0) [(1, .ag [.sl t.y, .bool t.s, .sl t.d, .bool t.s', .sl t.d', .bool t.u, .sl t.e, .bool t.u', .sl t.e']),(2, .bool later),(3,aN lH C)] Tryz.func109 rfl (by kernel_rfl) (by kernel_rfl) (show 4≤47 by decide) (by intro q;simp) ?_
 intro id ver kP YT eJ
 have E7:=gG b n z L e
 refine aA [0,2,3,5] ?_
 refine aA [0,2,3,5,8] ?_
 refine W.nil 8 8 179 18 (by simp) (by decide) (fun K hK=>?_)
 refine W.lw [0,2,3,5,8] hK ?_;clear hK K;simp
 refine W.seq ?_
 refine W.fA (fun σ=>∃(v5 v8:Nat) (rows:Pm.Rows) (clk:Nat),σ=⟨fa [(0, .ptr (id+1000000) ver 0 0),(2, .bool later),(5, .ptr 5 v5 0 0),(8, .own 8 v8 0 0),(13,aN lH S),(14, .int .i64 S.length),(15, .int .i64 0)],rows,clk⟩∧rows 8=some ⟨v8,179,18,[]⟩∧rows 5=some ⟨v5,54,9,[[.sl t.y, .bool t.s, .sl t.d, .bool t.s', .sl t.d', .bool t.u, .sl t.e, .bool t.u', .sl t.e']]⟩∧rows (id+1000000)=some ⟨ver,95,12,[co b n z L e]⟩∧(∀j,j≠id→rows (j+1000000)=kP (j+1000000))) (fun K hK=>?_) ?_
 ·simp (disch:=omega) [gw,eJ]
  refine cU hS ?_
  exact hK _ _ (aB _ [0,2,5,8,13,14,15]) ⟨_,_,_,_,rfl,by simp,by simp,by simp [eJ],by intro j hj;simp⟩
 clear eJ
 rintro _ ⟨v5,v8,rows,clk,rfl,qH,eB,eJ,kX⟩
 refine W.block ?_
 refine W.bE (fun k σ=>∃(i v5 v8:Nat) (rows:Pm.Rows) (clk:Nat),σ=⟨fa [(0, .ptr (id+1000000) ver 0 0),(2, .bool later),(5, .ptr 5 v5 0 0),(8, .own 8 v8 0 i),(13,aN lH S),(14, .int .i64 S.length),(15, .int .i64 i)],rows,clk⟩∧i+k=S.length∧rows 8=some ⟨v8,179,18,emap MW ((S.map G).take i)⟩∧rows 5=some ⟨v5,54,9,[[.sl t.y, .bool t.s, .sl t.d, .bool t.s', .sl t.d', .bool t.u, .sl t.e, .bool t.u', .sl t.e']]⟩∧rows (id+1000000)=some ⟨ver,95,12,[co b n z L e]⟩∧(∀j,j≠id→rows (j+1000000)=kP (j+1000000))) S.length ?_ ?_
 ·exact⟨_,aB _ [0,2,5,8,13,14,15],0,v5,v8,rows,clk,rfl,by omega,by simp [qH,emap],eB,eJ,kX⟩
 clear qH eB eJ kX rows clk v5 v8
 rintro k _ ⟨i,v5,v8,rows,clk,rfl,zT,qH,eB,eJ,kX⟩
 refine bV [0,2,5,8,13,14,15,16] ?_
 refine bJ ?_ ?_<;>intro h
 ·have hi:i<S.length:=by simp at h;omega
  have hF':=fun h=>hF h _ (b7 hi)
  have hT':=fun h=>hT h _ (b7 hi)
  have hz':=hSz _ (b7 hi)
  have i9:(S.map G).take (i+1)=(S.map G).take i ++ [G (nth S i)]:=by
   rw [List.take_succ_eq_append_getElem (by simpa using hi),cB hi];simp
  have hlen:((S.map G).take i).length=i:=by simp;omega
  generalize hU':(S.map G).take (i+1)=U' at *
  generalize (S.map G).take i=U at *
  generalize hw:nth S i=w at *
  generalize G w=g at *
  rw [iP,hz',agJ]at hT'
  refine kY ?_
  refine W.sr ?_
  simp (disch:=omega) [gw,hi,hw,iP,hz',agJ]
  refine bG [0,2,5,8,10,13,14,15] ?_
  refine aA [0,2,5,8,10,11,13,14,15] ?_
  refine W.iE (fun σ=>∃(v11:Nat) (y:Bool) (rows:Pm.Rows) (clk:Nat),σ=⟨fa [(0, .ptr (id+1000000) ver 0 0),(2, .bool later),(5, .ptr 5 v5 0 0),(8, .own 8 v8 0 i),(11, .ptr 11 v11 0 0),(13,aN lH S),(14, .int .i64 S.length),(15, .int .i64 i)],rows,clk⟩∧rows 11=some ⟨v11,179,18,[[.int .i64 g.t.k, .int .i64 g.t.a, .int .i64 g.t.b, .int .i64 g.t.c, .int .i64 g.t.d,Po g.p, .int .i64 g.w, .bool g.k, .bool g.o,sc y g.f.y, .bool g.f.s,sc y g.f.d, .bool g.f.s',sc y g.f.d', .bool g.f.u,sc y g.f.e, .bool g.f.u',sc y g.f.e']]⟩∧(y=true→g.f=A9.no)∧rows 8=some ⟨v8,179,18,emap MW U⟩∧rows 5=some ⟨v5,54,9,[[.sl t.y, .bool t.s, .sl t.d, .bool t.s', .sl t.d', .bool t.u, .sl t.e, .bool t.u', .sl t.e']]⟩∧rows (id+1000000)=some ⟨ver,95,12,[co b n z L e]⟩∧(∀j,j≠id→rows (j+1000000)=kP (j+1000000))) ?_ ?_
  ·refine aA [0,2,5,8,10,11,13,14,15,21] ?_
   refine bJ ?_ ?_<;>intro h
   ·subst h
    obtain⟨y,hy,hk⟩:=hT' rfl
    rw [UY]at hk
    refine W.cA (fun K hK=>?_)
    simp (disch:=omega) [gw,eB]
    refine iY hk rfl (by simp) E7 E7 (by simp [eJ]) ?_
    simp (disch:=omega) [gw]
    exact hK _ ⟨_,aB _ [0,2,5,8,11,13,14,15],_,y,_,_,rfl,by simp [UY],hy,by simp [qH],by simp [eB],by simp,by intro j hj;simp [hj,kX]⟩
   ·subst h
    obtain rfl:=hF' rfl
    refine W.skip ?_
    exact⟨_,aB _ [0,2,5,8,11,13,14,15],_,true,_,_,rfl,by simp [WE.new,A9.no];rfl,by simp [WE.new],by simp [qH],by simp [eB],by simp [eJ],by intro j hj;simp [hj,kX]⟩
  clear qH eB eJ kX rows clk
  rintro _ ⟨v11,y,rows,clk,rfl,anl,hgf,qH,eB,eJ,kX⟩
  refine W.cA (fun K hK=>?_);simp (disch:=omega) [gw,anl,qH,hlen];refine W.lw [0,2,5,8,13,14,15] hK ?_;clear hK K;simp
  refine W.cA (fun K hK=>?_);simp (disch:=omega) [gw]
  refine hK _ ⟨k-1,_,aB _ [0,2,5,8,13,14,15],by omega,i+1,_,_,_,_,rfl,by omega,?_,by simp [eB],by simp [eJ],by intro j hj;simp [hj,kX]⟩
  rw [hU',i9]
  cases y
  ·simp [emap,aN,hlen,mL,szc]
  ·have:=hgf rfl
   simp [emap,aN,hlen,mL,this,A9.no,szc]
 ·have hi:i=S.length:=by simp at h;omega
  subst hi
  have hTT:(S.map G).take S.length=S.map G:=List.take_of_length_le (by simp)
  rw [hTT]at qH
  refine fH ?_
  refine W.freeze 8 (by simp [qH]) (fun K hK=>?_)
  simp [qH]
  rw [hTT]
  refine hK _ ?_;clear hK K
  simp only [fZ]at eJ ⊢
  refine W.sr ?_
  simp (disch:=omega) [gw,eB]
  refine aC hL ?_
  simp (disch:=omega) [gw,eJ]
  refine bG [0,8] ?_
  refine W.cA (fun K hK=>?_)
  simp (disch:=omega) [gw,eJ]
  refine hK _ ?_
  simp [go,eJ]
  exact⟨rfl,fun j hj=>by simp [hj,kX]⟩
theorem YZ{n t:A9}{z:Bool}{L M:List WE}{e:Int}{C:List CE}
  (hY:fO env.P 109 [.ag (b9 t), .bool false,aN lH C] 95 12 (co false n z L e) (co true t false M e) (.dU [])) :
  fO env.P 42 [.ag (b9 t),aN lH C] 95 12 (co false n z L e) (co true t false M e) (.dU []):=by
 simp only [fF]at hY ⊢
 refine fD (E:=env) (fun _=>0) [(1, .ag [.sl t.y, .bool t.s, .sl t.d, .bool t.s', .sl t.d', .bool t.u, .sl t.e, .bool t.u', .sl t.e']),(2,aN lH C)] Tryz.func42 rfl (by kernel_rfl) (by kernel_rfl) (show 3≤23 by decide) (by intro q;simp) ?_
 intro id ver kP YT eJ
 have E7:=gG false n z L e
 have YW:=gG true t false M e
 simp only [fZ]at eJ hY E7 YW ⊢
 refine aA [0,2,4] ?_
 refine W.LY (fun K hK=>?_)
 simp (disch:=omega) [gw,eJ]
 refine xE hY rfl rfl E7 YW (by simp [eJ]) ?_
 simp (disch:=omega) [gw]
 refine bC (by refine⟨?_,?_,?_⟩<;>kernel_rfl) ?_
 simp (disch:=omega) [gw]
 refine hK _ ?_
 simp [go,eJ]
 exact fun j hj=>by simp [hj]
theorem RM{α β:Type}{c:Prop}[Decidable c]{f g:α→β}{x:α}:(if c then f else g) x=if c then f x else g x:=by split<;>rfl
structure CS where
 b:Bool
 n:A9
 z:Bool
 L:List WE
 e:Int
def CS.c(s:CS):List PV:=co s.b s.n s.z s.L s.e
theorem CS.dB(s:CS):∀p∈s.c,bI p=true:=gG _ _ _ _ _
theorem agS{S:CS}{m:A9}{s s':Bool}{d d':List (List PV)}{g:FuncId}{bW:List PV}{v:Int}(hv:0<v)
  (hN:fO env.P 49 [] 95 12 S.c S.c (.ag (b9 m)))
  (hc:aF env.P 111 [.ag (b9 m), .ag [.bool s, .sl d, .bool s', .sl d']] (.int .i64 v)) :
  fO env.P 43 [.ag [.bool s, .sl d, .bool s', .sl d'], .fn g bW] 95 12 S.c S.c (.dU [.int .i64 0, .int .i64 8]):=by
 simp only [fF]at hN hc
 have hp:=S.dB
 refine fD (E:=env) (fun _=>0) [(1, .ag [.bool s, .sl d, .bool s', .sl d']),(2, .fn g bW)] Tryz.func43 rfl (by kernel_rfl) (by kernel_rfl) (show 3≤61 by decide) (by intro q;simp) ?_
 intro id ver kP YT eJ
 refine bV [0,2,4] ?_
 refine W.sd ?_
 simp (disch:=omega) [gw,eJ]
 refine xE hN rfl rfl hp hp (by simp [eJ]) ?_
 simp (disch:=omega) [gw,RM]
 refine aC hc ?_
 simp (disch:=omega) [gw,hv]
 refine bG [0,2,4,17] ?_
 refine bJ ?_ ?_<;>intro h
 ·refine aA [6,7] ?_
  refine W.ret ?_
  simp [go,eJ]
  exact fun j hj h=>absurd h hj
 ·simp at h
theorem anm{K:Nat}{S U:Nat→CS}{a:Nat→A9}{C:Nat→List CE}{m o r:A9}{ok s s':Bool}{d d':List (List PV)}{g:FuncId}{bW:List PV}{v:Int}(hv:¬0<v)(hK0:K<1000000)
  (hw:env.writes g=false) (hm:env.HD g=false) (E7:bW.all dB=true)
  (hN:fO env.P 49 [] 95 12 (S 0).c (S 0).c (.ag (b9 m)))
  (hc:aF env.P 111 [.ag (b9 m), .ag [.bool s, .sl d, .bool s', .sl d']] (.int .i64 v))
  (hX:∀i,i<K→fO env.P 51 [] 95 12 (S i).c (U i).c (.dU [.ag (b9 (a i)), .bool true]))
  (hC:∀i,i<K → ∃v:Int,¬0<v∧aF env.P 111 [.ag (b9 (a i)), .ag [.bool s, .sl d, .bool s', .sl d']] (.int .i64 v))
  (hL:∀i,i<K→aF env.P 112 [.sl [b9 (a i)]] (.dU [.ag (b9 (a i)), .bool true]))
  (hB:∀i,i<K→aF env.P g (.ag (b9 (a i))::bW) (aN lH (C i)))
  (hY:∀i,i<K → ∃M e,fO env.P 109 [.ag (b9 (a i)), .bool true,aN lH (C i)] 95 12 (U i).c (co true (a i) false M e) (.dU [])∧S (i+1)=⟨true,a i,false,M,e+1⟩∧0≤e∧e<1000000)
  (hXK:fO env.P 51 [] 95 12 (S K).c (U K).c (.dU [.ag (b9 r), .bool ok]))
  (hCK:ok=true → ∃v:Int,0<v∧aF env.P 111 [.ag (b9 r), .ag [.bool s, .sl d, .bool s', .sl d']] (.int .i64 v))
  (hO:aF env.P 113 [.ag [.bool s, .sl d, .bool s', .sl d']] (.ag (b9 o))) (hUz:(U K).z=false) :
  fO env.P 43 [.ag [.bool s, .sl d, .bool s', .sl d'], .fn g bW] 95 12 (S 0).c (co true o false (U K).L (U K).e) (.dU [.int .i64 K, .int .i64 0]):=by
 simp only [fF]at hN hc hX hC hL hB hY hXK hCK hO
 have hpS:=fun i=>(S i).dB
 have hpU:=fun i=>(U i).dB
 refine fD (E:=env) (fun _=>0) [(1, .ag [.bool s, .sl d, .bool s', .sl d']),(2, .fn g bW)] Tryz.func43 rfl (by kernel_rfl) (by kernel_rfl) (show 3≤61 by decide) (by intro q;simp) ?_
 intro id ver kP YT eJ
 refine bV [0,2,4] ?_
 refine W.sd ?_
 simp (disch:=omega) [gw,eJ]
 refine xE hN rfl rfl (hpS 0) (hpS 0) (by simp [eJ]) ?_
 simp (disch:=omega) [gw,RM]
 refine aC hc ?_
 simp (disch:=omega) [gw,hv]
 refine bG [0,2,4,17] ?_
 refine bJ ?_ ?_<;>intro h
 ·simp at h
 refine W.skip ?_
 refine bV [0,2,4,8] ?_
 refine W.block ?_
 refine W.bE (fun k σ=>∃(i v4:Nat) (rows:Pm.Rows) (clk:Nat),σ=⟨fa [(0, .ptr (id+1000000) ver 0 0),(2, .fn g bW),(4, .ptr 4 v4 0 0),(8, .int .i64 i)],rows,clk⟩∧i+k=K∧rows 4=some ⟨v4,52,4,[[.bool s, .sl d, .bool s', .sl d']]⟩∧rows (id+1000000)=some ⟨ver,95,12,[(S i).c]⟩∧(∀j,j≠id→rows (j+1000000)=kP (j+1000000))) K ?_ ?_
 ·exact⟨_,aB _ [0,2,4,8],0,_,_,_,rfl,by omega,by simp,by simp [eJ],by intro j hj;simp [hj]⟩
 clear eJ
 rintro k _ ⟨i,v4,rows,clk,rfl,zT,dS,eJ,kX⟩
 refine W.block ?_
 by_cases hi:i<K
 ·have x:=hX i hi
  obtain⟨v,hv2,c⟩:=hC i hi
  have l:=hL i hi
  have b:=hB i hi
  obtain⟨M,e,y,hS,he0,KV⟩:=hY i hi
  have hpY:=gG true (a i) false M e
  generalize a i=ai at *
  refine jG ?_
  refine iY x rfl rfl (hpS i) (hpU i) (by simp [eJ]) ?_
  simp (disch:=omega) [gw]
  refine bG [0,2,4,8,9,10] ?_
  refine W.seq ?_
  refine W.sr ?_
  simp (disch:=omega) [gw,dS]
  refine aC c ?_
  simp (disch:=omega) [gw,hv2]
  refine bG [0,2,4,8,9,30] ?_
  refine bJ ?_ ?_<;>intro h
  ·simp at h
  refine W.skip ?_
  refine aR [0,2,4,8,9,11] l ?_
  have hmP:u6 env (.fn g bW)=false:=by cases bW<;>simp [hm]
  refine nK ?_
  rw [if_neg (by rw [hmP];decide)]
  simp (disch:=omega) [gw]
  refine cU b ?_
  refine xE y rfl rfl (hpU i) hpY (by simp) ?_
  simp (disch:=omega) [gw]
  refine bG [0,2,4,8] ?_
  have uW:(S (i+1)).c=co true ai false M (e+1):=by rw [hS];rfl
  refine W.sr ?_
  simp (disch:=omega) [gw,fZ]
  refine bG [0,2,4,8] ?_
  refine W.cA (fun K hK=>?_);simp (disch:=omega) [gw]
  refine hK _ ⟨k-1,_,aB _ [0,2,4,8],by omega,i+1,_,_,_,rfl,by omega,by simp [dS],by rw [uW];simp [fZ],by intro j hj;simp [hj,kX]⟩
 ·obtain rfl:i=K:=by omega
  refine jG ?_
  refine iY hXK rfl rfl (hpS i) (hpU i) (by simp [eJ]) ?_
  simp (disch:=omega) [gw]
  refine bG [0,2,4,8,9,10] ?_
  refine W.seq ?_
  refine W.fA (fun σ=>∃(rows:Pm.Rows) (clk:Nat),σ=⟨fa [(0, .ptr (id+1000000) ver 0 0),(4, .ptr 4 v4 0 0),(8, .int .i64 i),(30, .bool true)],rows,clk⟩∧rows 4=some ⟨v4,52,4,[[.bool s, .sl d, .bool s', .sl d']]⟩∧rows (id+1000000)=some ⟨ver,95,12,[(U i).c]⟩∧(∀j,j≠id→rows (j+1000000)=kP (j+1000000))) (fun K hK=>?_) ?_
  ·cases ok
   ·simp (disch:=omega) [gw]
    exact hK _ _ (aB _ [0,4,8,30]) ⟨_,_,rfl,by simp [dS],by simp,by intro j hj;simp [hj,kX]⟩
   ·obtain⟨v,hv2,c⟩:=hCK rfl
    simp (disch:=omega) [gw,dS]
    refine aC c ?_
    simp (disch:=omega) [gw,hv2]
    exact hK _ _ (aB _ [0,4,8,30]) ⟨_,_,rfl,by simp [dS],by simp,by intro j hj;simp [hj,kX]⟩
  clear eJ dS kX rows clk
  rintro _ ⟨rows,clk,rfl,dS,eJ,kX⟩
  refine bJ ?_ ?_<;>intro h
  ·refine fH ?_
   simp only [CS.c,fZ,hUz]at eJ
   refine W.sr ?_
   simp (disch:=omega) [gw,dS,eJ]
   refine aC hO ?_
   simp (disch:=omega) [gw,eJ]
   refine bG [8] ?_
   refine aA [6,7] ?_
   refine W.ret ?_
   simp only [fZ]
   simp [go,eJ]
   exact fun j hj=>by simp [hj,kX]
  ·simp at h
theorem ann(n:Int)(h0:0≤n)(h1:n<4294967296):aF env.P 269 [.int .u32 n] (.int .i64 (32-nb n.toNat)):=by
 refine cD [(0, .int .u32 n)] Tryz.func269 ?_
 refine aA [0] ?_
 refine jG ?_
 refine aC (F0 n h0 h1) ?_
 have:nb n.toNat≤32:=nX.2 (by omega)
 simp (disch:=omega) [gw]
 refine bG [2] ?_
 exact cC
theorem agT(l:List Int)(n:Nat)(hn:n≤31)(hl:l.length<1099511627775)(lm:cX 4294967296 l):aF env.P 275 [us l, .int .i64 n] (N (V 4294967296 l*2^n)):=by
 refine cD [(0,us l),(1, .int .i64 n)] Tryz.func275 ?_
 refine aA [0,1] ?_
 have gC:=bX l
 refine jG ?_
 refine aC (dK l (by omega)) ?_
 simp (disch:=omega) [gw]
 refine bG [0,1] ?_
 have lx:=eG lm
 have hV:=c8 (b:=4294967296) l
 rw [←hV]
 have hxl:(aQ l).length<1099511627775:=by omega
 clear hV
 generalize aQ l=x at *
 have h65:¬(65536<(n:Int)):=by omega
 have e0:(if 0<n then(n:Int)else 0)=n:=by split<;>omega
 refine W.sr ?_
 simp (disch:=omega) [gw,h65,e0]
 refine bG [0,1] ?_
 refine aP [0,1,18] ?_
 refine bJ ?_ ?_<;>intro h
 ·have h:x = []:=by simp at h;exact h
  subst h
  refine aA [4] ?_
  refine W.ret ?_
  simp [go,V]
  rfl
 have h:x ≠ []:=by simp at h;exact h
 refine W.skip ?_
 have d1:(n:Int)/32=0:=by omega
 have d2:(n:Int)%32=n:=by omega
 refine W.sr ?_
 simp (disch:=omega) [gw,d1,d2]
 refine bG [0,5,6] ?_
 refine aA [0,5,6,7] ?_
 refine aP [5,6,7,30,31,32] ?_
 refine W.block ?_
 have h2n:(2:Int)^n≤2147483648:=by
  have:=Int.ofNat_le.2 (Nat.pow_le_pow_right (show 0<2 by decide) hn)
  simpa using this
 have h2p:(0:Int)<2^n:=Int.pow_pos (by decide)
 have h2d:(2:Int)^n∣4294967296:=by
  refine⟨2^(32-n),?_⟩
  rw [←Int.pow_add,show n+(32-n)=32 by omega];rfl
 refine W.bE (fun q σ=>∃(i v:Nat) (z:List Int) (rows:Pm.Rows) (clk:Nat),σ=⟨fa [(5, .int .i64 0),(6, .int .u64 n),(7, .own 29 v 0 (x.length+1)),(30,us x),(31, .int .i64 x.length),(32, .int .i64 i)],rows,clk⟩ ∧
  rows 29=some ⟨v,185,1,emap u32 z⟩∧q=x.length-i∧i≤x.length∧z.length=x.length+1∧cX 4294967296 z∧V 4294967296 (z.take (i+1))=V 4294967296 (x.take i)*2^n∧nth z i<2^n) x.length ?_ ?_
 ·exact⟨_, .refl,0,_,List.replicate (x.length+1) 0,_,_,rfl,by simp,by omega,by omega,by simp,cX.rep (by decide) _,by simp [V,List.replicate_succ],by rw [cB (by simp)];simp;exact h2p⟩
 rintro q _ ⟨i,v,z,rows,clk,rfl,hr,hq,hi,hz,lz,hV,hzi⟩
 refine bV [5,6,7,30,31,32,33] ?_
 refine bJ ?_ ?_<;>intro h
 ·have hi:i<x.length:=by simp at h;omega
  have hw:=lx.nth hi
  refine kY ?_
  refine aA [5,6,7,8,9,30,31,32] ?_
  have hVx:=aV (b:=4294967296) hi
  generalize hwe:nth x i=w at *
  have hv0:0≤w*2^n:=Int.mul_nonneg hw.1 (by omega)
  have hv1:w*2^n<4294967296*2^n:=Int.mul_lt_mul_of_pos_right hw.2 h2p
  have hvd:(2^n:Int)∣w*2^n:=⟨w,Int.mul_comm _ _⟩
  have hwr:IntKind.u64.wrap (w*2^n)=w*2^n:=wrap_u64 hv0 (by omega)
  have ays:=lz.nth (i:=i) (by omega)
  refine W.sr ?_
  simp (disch:=omega) [gw,hwr]
  refine bG [5,6,7,8,10,30,31,32] ?_
  have ayt:V 4294967296 (x.take (i+1))*2^n=V 4294967296 (x.take i)*2^n+4294967296^i*(w*2^n):=by rw [hVx];grind
  generalize hve:w*2^n=y at *
  have atr:(2^n:Int)∣y%4294967296:=by
   rw [Int.emod_def]
   exact Int.dvd_sub hvd (Int.dvd_trans h2d (Int.dvd_mul_right _ _))
  have aBL:y%4294967296+2^n≤4294967296:=by
   obtain⟨c,hc⟩:=atr
   obtain⟨d,hd⟩:=h2d
   have h1:(2^n:Int)*c<2^n*d:=by have:=Int.emod_lt_of_pos y (show (0:Int)<4294967296 by decide);omega
   have h2:c<d:=Int.lt_of_mul_lt_mul_left h1 (by omega)
   have h3:=Int.mul_le_mul_of_nonneg_left (show c+1≤d by omega) (show 0≤(2^n:Int)by omega)
   rw [Int.mul_add]at h3
   omega
  have hor:=(af1 (a:=y%4294967296) (b:=nth z i) n (by omega) ays.1 atr hzi (by omega)).2
  have hwy:IntKind.u32.wrap y=y%4294967296:=wrap_u32'
  refine W.sr ?_
  simp (disch:=omega) [gw,hr,hz,hwy,hor]
  refine bG [5,6,7,8,10,30,31,32] ?_
  refine W.cA (fun K hK=>?_)
  simp (disch:=omega) [gw,hz]
  refine W.lw [5,6,7,30,31,32] hK ?_;clear hK K;simp
  refine W.cA (fun K hK=>?_);simp (disch:=omega) [gw]
  refine hK _ ⟨x.length-(i+1),_,aB _ [5,6,7,30,31,32],by omega,i+1,v,(z.set i (y%4294967296+nth z i)).set (i+1) (y/4294967296),_,_,rfl,by simp,by omega,by omega,by simp [hz],(lz.set ⟨by omega,by omega⟩).set ⟨by omega,by omega⟩,?_,?_⟩
  ·have q1:=fC (b:=4294967296) (l:=z.set i (y%4294967296+nth z i)) (i:=i+1) (x:=y/4294967296) (by simp;omega)
   have q2:=fC (b:=4294967296) (l:=z) (i:=i) (x:=y%4294967296+nth z i) (by omega)
   have q3:=aV (b:=4294967296) (l:=z) (i:=i) (by omega)
   have q4:=Int.mul_ediv_add_emod y 4294967296
   rw [q1,q2,ayt,←hV,q3,Int.pow_succ]
   generalize y/4294967296=yq at *
   generalize y%4294967296=yr at *
   rw [←q4];grind
  ·rw [eW (by simp;omega)];omega
 ·have hi:i=x.length:=by simp at h;omega
  subst hi
  have hVz:V 4294967296 z=V 4294967296 x*2^n:=by
   rw [a9 (by omega),a9 (Nat.le_refl _)]at hV;exact hV
  have zz:=bM hz
  have pT:=dK z (by omega)
  rw [vN lz,hVz]at pT
  refine fH ?_
  refine W.sr ?_
  simp (disch:=omega) [gw,hr,zz]
  refine cQ [4] pT ?_
  exact cC
theorem MZ(l:List Int)(n m:Nat)(hn:n≤31)(hl:l.length<1099511627775)(lm:cX 4294967296 l)(O1:0<m)(KG:m<1099511627776)(hb:V 4294967296 l*2^n<4294967296^m) :
  ∃y:List Int,lY env.P 270 [us l, .int .i64 n, .int .i64 m] 185 1 (emap u32 y)∧y.length=m∧cX 4294967296 y∧V 4294967296 y=V 4294967296 l*2^n:=by
 have hp:0≤V 4294967296 l*2^n:=Int.mul_nonneg (bL (by decide) lm) (Int.le_of_lt (Int.pow_pos (by decide)))
 obtain⟨N0,hN⟩:=Int.eq_ofNat_of_zero_le hp
 have hS:=agT l n hn hl lm
 rw [hN]at hS hb
 replace hS:aF env.P 275 [us l, .int .i64 n] (us (aU LL N0)):=hS
 have hdl:(aU LL N0).length≤m:=z5 gF (by
  have h4:((4294967296^m:Nat):Int)=(4294967296:Int)^m:=Int.natCast_pow 4294967296 m
  show N0<4294967296^m
  omega)
 have TS:=fI gF N0
 have hdv:=kH gF N0
 refine⟨aU LL N0++List.replicate (m-(aU LL N0).length) 0,?_,by simp;omega,cX.append.2 ⟨TS,cX.rep (by decide) _⟩,by rw [dZ,qB,hN,←hdv];simp⟩
 generalize aU LL N0=D at *
 refine pS (E:=env) (fun _=>0) (t:=6) [(0,us l),(1, .int .i64 n),(2, .int .i64 m)] Tryz.func270 rfl (by kernel_rfl) (by kernel_rfl) (show 3≤16 by decide) rfl (by simp) ?_
 refine aA [0,1,2] ?_
 refine aA [0,1,7] ?_
 refine jG ?_
 refine cU hS ?_
 refine asc (e':=185) (els:=emap u32 (List.replicate m 0)) (l:=emap u32 D) (by simp) (by simp) O1 rfl (fun e he=>by simp only [emap,List.mem_map]at he;obtain⟨x,_,rfl⟩:=he;rfl) ?_
 have e1:(emap u32 (List.replicate m 0)).take 0++(emap u32 D).take m++(emap u32 (List.replicate m 0)).drop (0+min (emap u32 D).length m)=emap u32 (D++List.replicate (m-D.length) 0):=by
  simp only [emap,List.take_zero,List.nil_append,List.length_map,Nat.zero_add,List.map_append,Nat.min_eq_left hdl]
  rw [List.take_of_length_le (by simpa using hdl),←List.map_drop,List.drop_replicate]
 rw [e1]
 generalize hy:D++List.replicate (m-D.length) 0=y at *
 have O4:y.length=m:=by rw [←hy];simp;omega
 simp (disch:=omega) [gw]
 refine bG [7] ?_
 refine aA [6] ?_
 refine W.ret ?_
 exact⟨9,0,by simp [O4],by simp,fun x hx p hp=>by
  simp only [emap,List.mem_map]at hx
  obtain⟨r,_,rfl⟩:=hx
  simp at hp
  subst hp;rfl⟩
theorem agV(a:List Int)(w:Int)(ha:a.length<1099511627775)(la:cX 4294967296 a)(hw0:0<w)(X4:w<4294967296):aF env.P 268 [us a, .int .u32 w] (.dU [N (V 4294967296 a/w), .int .u32 (V 4294967296 a%w)]):=by
 refine cD [(0,us a),(1, .int .u32 w)] Tryz.func268 ?_
 refine aA [0,1] ?_
 refine aA [0,1,6] ?_
 refine aA [0,1,6,7] ?_
 refine aP [0,1,6,7,8] ?_
 refine W.block ?_
 refine W.bE (fun q σ=>∃(v:Nat) (r:Int) (z:List Int) (rows:Pm.Rows) (clk:Nat),σ=⟨fa [(0,us a),(1, .int .u32 w),(6, .own 12 v 0 a.length),(7, .int .u64 r),(8, .int .i64 ((q:Int)-1))],rows,clk⟩ ∧
  rows 12=some ⟨v,185,1,emap u32 z⟩∧q≤a.length∧z.length=a.length∧cX 4294967296 z∧V 4294967296 (z.drop q)*w+r=V 4294967296 (a.drop q)∧0≤r∧r<w) a.length ?_ ?_
 ·exact⟨_, .refl,0,0,List.replicate a.length 0,_,_,rfl,by simp,by omega,by simp,cX.rep (by decide) _,by simp [V],by omega,hw0⟩
 rintro q _ ⟨v,r,z,rows,clk,rfl,hr,hq,hz,lz,hV,FE,B6⟩
 refine aP [0,1,6,7,8,17] ?_
 refine bJ ?_ ?_<;>intro h
 ·have O3:0<q:=by simp at h;omega
  obtain⟨j,rfl⟩:∃j,q=j+1:=⟨q-1,by omega⟩
  clear h
  have hj:=la.nth (i:=j) (by omega)
  have ej:((j+1:Nat):Int)-1=j:=by omega
  rw [ej]
  have hVa:V 4294967296 (a.drop j)=nth a j+4294967296*V 4294967296 (a.drop (j+1)):=by rw [fB (by omega)];rfl
  generalize hxe:nth a j=x at *
  have hrb:r*4294967296<18446744073709551616:=by omega
  have hor:=(z8 (a:=r*4294967296) (b:=x) 32 (by omega) hj.1 ⟨r,by rw [Int.mul_comm];rfl⟩ (by simpa using hj.2) (by omega)).1
  refine kY ?_
  refine W.sr ?_
  simp (disch:=omega) [gw,hxe,hor]
  refine bG [0,1,6,8,9] ?_
  have hs:(r*4294967296+x)/w<4294967296:=Int.ediv_lt_of_lt_mul hw0 (by
   have:=Int.mul_le_mul_of_nonneg_right (show r+1≤w by omega) (show (0:Int)≤4294967296 by decide)
   rw [Int.mul_comm 4294967296];omega)
  have UL:0≤(r*4294967296+x)/w:=Int.ediv_nonneg (by omega) (by omega)
  have O1:=Int.emod_nonneg (r*4294967296+x) (show w≠0 by omega)
  have KG:=Int.emod_lt_of_pos (r*4294967296+x) hw0
  have XY:=Int.mul_ediv_add_emod (r*4294967296+x) w
  have hw':¬w=0:=by omega
  refine W.LY (fun K hK=>?_)
  simp (disch:=omega) [gw,hr,hz,hw']
  refine bC (by kernel_rfl) ?_
  simp (disch:=omega) [gw,hr,hz,hw']
  refine W.lw [0,1,6,7,8] hK ?_;clear hK K;simp
  refine W.cA (fun K hK=>?_);simp (disch:=omega) [gw]
  refine hK _ ⟨j,_,aB _ [0,1,6,7,8],by omega,v,(r*4294967296+x)%w,z.set j ((r*4294967296+x)/w),_,_,rfl,by simp,by omega,by simp [hz],lz.set ⟨UL,hs⟩,?_,O1,KG⟩
  rw [fB (l:=z.set j _) (i:=j) (by simp;omega),eW (by omega),hVa,←hV,List.drop_set_of_lt (by omega)]
  simp only [V]
  generalize (r*4294967296+x)/w=qq at *
  generalize (r*4294967296+x)%w=rr at *
  grind
 ·have O3:q=0:=by simp at h;omega
  subst O3
  have zz:=bM hz
  have pT:=dK z (by omega)
  simp only [List.drop_zero]at hV
  have h1:V 4294967296 z=V 4294967296 a/w∧r=V 4294967296 a%w:=by
   have h2:V 4294967296 a/w=V 4294967296 z:=by
    have e:(V 4294967296 z+1)*w=V 4294967296 z*w+w:=by grind
    rw [Int.ediv_eq_iff_of_pos hw0]
    constructor<;>omega
   refine⟨h2.symm,?_⟩
   have h3:=Int.emod_def (V 4294967296 a) w
   rw [h2,Int.mul_comm]at h3
   omega
  rw [vN lz,h1.1]at pT
  have bS:=h1.2
  refine fH ?_
  refine W.sr ?_
  simp (disch:=omega) [gw,hr,zz]
  refine cQ [4,5] pT ?_
  refine W.ret ?_
  simp [go,bS]
theorem pU{x:List Int}{i:Nat}(h:x.length≤i):nth x i=0:=iF h
theorem agW(l:List Int)(n:Nat)(hn:n≤31)(hl:l.length<1099511627775)(lm:cX 4294967296 l):aF env.P 272 [us l, .int .i64 n] (N (V 4294967296 l/2^n)):=by
 refine cD [(0,us l),(1, .int .i64 n)] Tryz.func272 ?_
 refine aA [0,1] ?_
 have gC:=bX l
 refine jG ?_
 refine aC (dK l (by omega)) ?_
 simp (disch:=omega) [gw]
 refine bG [0,1] ?_
 have lx:=eG lm
 have hV:=c8 (b:=4294967296) l
 rw [←hV]
 have hxl:(aQ l).length<1099511627775:=by omega
 clear hV
 generalize aQ l=x at *
 have h65:¬(65536<(n:Int)):=by omega
 have e0:(if 0<n then(n:Int)else 0)=n:=by split<;>omega
 refine W.sr ?_
 simp (disch:=omega) [gw,h65,e0]
 refine bG [0,1] ?_
 have d1:(n:Int)/32=0:=by omega
 have d2:(n:Int)%32=n:=by omega
 refine W.sr ?_
 simp (disch:=omega) [gw,d1,d2]
 refine bG [0,5,6] ?_
 refine aP [0,5,6,23] ?_
 refine bJ ?_ ?_<;>intro h
 ·have h:x = []:=by simp at h;exact h
  subst h
  refine aA [4] ?_
  refine W.ret ?_
  simp [go,V]
  rfl
 have h:x ≠ []:=by simp at h;exact h
 refine W.skip ?_
 refine aA [0,5,6,7] ?_
 refine aP [0,5,6,7,30,31] ?_
 refine W.block ?_
 have h2p:(0:Int)<2^n:=Int.pow_pos (by decide)
 have h2e:(0:Int)<2^(32-n):=Int.pow_pos (by decide)
 have h2d:(2:Int)^n*2^(32-n)=4294967296:=by
  rw [←Int.pow_add,show n+(32-n)=32 by omega];rfl
 refine W.bE (fun q σ=>∃(i v:Nat) (z:List Int) (rows:Pm.Rows) (clk:Nat),σ=⟨fa [(0,us x),(5, .int .i64 0),(6, .int .u64 n),(7, .own 28 v 0 x.length),(30, .int .i64 x.length),(31, .int .i64 i)],rows,clk⟩ ∧
  rows 28=some ⟨v,185,1,emap u32 z⟩∧q=x.length-i∧i≤x.length∧z.length=x.length∧cX 4294967296 z∧2^n*V 4294967296 (z.take i)+nth x 0%2^n=V 4294967296 (x.take i)+(nth x i%2^n)*4294967296^i) x.length ?_ ?_
 ·exact⟨_, .refl,0,_,List.replicate x.length 0,_,_,rfl,by simp,by omega,by omega,by simp,cX.rep (by decide) _,by simp [V]⟩
 rintro q _ ⟨i,v,z,rows,clk,rfl,hr,hq,hi,hz,lz,hV⟩
 refine bV [0,5,6,7,30,31,32] ?_
 refine bJ ?_ ?_<;>intro h
 ·have hi:i<x.length:=by simp at h;omega
  have hw:=lx.nth hi
  have hw2:0≤nth x (i+1)∧nth x (i+1)<4294967296:=by
   rcases Nat.lt_or_ge (i+1) x.length with h3 | h3
   ·exact lx.nth h3
   ·rw [pU h3];decide
  have hVx:=aV (b:=4294967296) hi
  obtain⟨q1,q2,q3⟩:=ab8 h2p h2e h2d hw hw2
  generalize hwe:nth x i=w at *
  refine kY ?_
  refine aA [0,5,6,7,8,30,31] ?_
  refine W.sr ?_
  simp (disch:=omega) [gw,hwe]
  refine bG [0,5,6,7,8,9,30,31] ?_
  refine W.iE (fun σ=>∃(rows:Pm.Rows) (clk:Nat),σ=⟨fa [(0,us x),(5, .int .i64 0),(6, .int .u64 n),(7, .own 28 v 0 x.length),(8, .int .i64 i),(9, .int .u64 (w+4294967296*nth x (i+1))),(30, .int .i64 x.length),(31, .int .i64 i)],rows,clk⟩∧rows 28=some ⟨v,185,1,emap u32 z⟩) ?_ ?_
  ·
   refine aA [0,5,6,7,8,9,30,31,47] ?_
   refine bJ ?_ ?_<;>intro h
   ·have h:i+1<x.length:=by simp at h;omega
    have hor:=(z8 (a:=nth x (i+1)*4294967296) (b:=w) 32 (by omega) hw.1 ⟨nth x (i+1),by rw [Int.mul_comm];rfl⟩ (by simpa using hw.2) (by omega)).2
    rw [show nth x (i+1)*4294967296+w=w+4294967296*nth x (i+1)by omega]at hor
    refine W.cA (fun K hK=>?_);simp (disch:=omega) [gw,hor]
    exact hK _ ⟨_,aB _ [0,5,6,7,8,9,30,31],_,_,rfl,by simp [hr]⟩
   ·have h:x.length≤i+1:=by simp at h;omega
    rw [pU h]
    refine W.skip ?_
    exact⟨_,Gh.fr [(0,us x),(5, .int .i64 0),(6, .int .u64 n),(7, .own 28 v 0 x.length),(8, .int .i64 i),(9, .int .u64 (w+4294967296*0)),(30, .int .i64 x.length),(31, .int .i64 i)] (by simp),_,_,rfl,by simp [hr]⟩
  rintro _ ⟨rows,clk,rfl,hr⟩
  have hwr:IntKind.u32.wrap ((w+4294967296*nth x (i+1))/2^n)=((w+4294967296*nth x (i+1))/2^n)%4294967296:=wrap_u32'
  have hfd:(w+4294967296*nth x (i+1)).fdiv (2^n)=(w+4294967296*nth x (i+1))/2^n:=Int.fdiv_eq_ediv_of_nonneg _ (by omega)
  refine W.cA (fun K hK=>?_)
  simp (disch:=omega) [gw,hr,hz,hfd,hwr]
  refine W.lw [0,5,6,7,30,31] hK ?_;clear hK K;simp
  refine W.cA (fun K hK=>?_);simp (disch:=omega) [gw]
  refine hK _ ⟨x.length-(i+1),_,aB _ [0,5,6,7,30,31],by omega,i+1,v,z.set i (((w+4294967296*nth x (i+1))/2^n)%4294967296),_,_,rfl,by simp,by omega,by omega,by simp [hz],lz.set ⟨q2,q3⟩,?_⟩
  rw [fC (by omega),hVx,Int.mul_add,Int.pow_succ]
  generalize ((w+4294967296*nth x (i+1))/2^n)%4294967296=o at *
  generalize nth x (i+1)%2^n=lo1 at *
  generalize w%2^n=lo at *
  have e2:(2:Int)^n*(4294967296^i*o)=4294967296^i*(2^n*o):=by grind
  rw [e2,q1]
  grind
 ·have hi:i=x.length:=by simp at h;omega
  subst hi
  have zz:=bM hz
  have pT:=dK z (by omega)
  rw [vN lz]at pT
  rw [zz,List.take_of_length_le (Nat.le_refl _),pU (Nat.le_refl _)]at hV
  have hVz:V 4294967296 x/2^n=V 4294967296 z:=by
   have h5:=Int.emod_nonneg (nth x 0) (show (2^n:Int)≠0 by omega)
   have h6:=Int.emod_lt_of_pos (nth x 0) h2p
   rw [Int.zero_emod,Int.zero_mul,Int.add_zero]at hV
   have e:(V 4294967296 z+1)*2^n=2^n*V 4294967296 z+2^n:=by grind
   have e':V 4294967296 z*2^n=2^n*V 4294967296 z:=Int.mul_comm _ _
   rw [Int.ediv_eq_iff_of_pos h2p]
   constructor<;>omega
  rw [hVz]
  refine fH ?_
  refine W.sr ?_
  simp (disch:=omega) [gw,hr,zz]
  refine cQ [4] pT ?_
  exact cC
theorem gK(z:List Int)(o k:Nat):nth (z.drop o) k=nth z (o+k):=by simp [nth,List.getElem?_drop]
theorem mT(z:List Int)(o k:Nat)(x:Int):(z.set (o+k) x).drop o=(z.drop o).set k x:=by
 rw [List.drop_set]
 rw [if_neg (by omega)]
 congr 1;omega
set_option maxHeartbeats 2000000 in
theorem RN{id ver off m:Nat}(zl y:List Int)(rows:Pm.Rows)(clk:Nat)(hr:rows id=some ⟨ver,185,1,emap u32 zl⟩)(O4:y.length=m+2)(hym:m<1099511627776)(ly:cX 4294967296 y)(aDL:2147483648≤nth y (m+1))(lz:cX 4294967296 zl)
  (aaE:off+m+3≤zl.length) (HL:zl.length<1099511627776) (dN:V 4294967296 ((zl.drop off).take (m+3))<4294967296*V 4294967296 y) :
  KQ env.P 271 [.own id ver off (m+3),us y] rows clk (fun r rows' gY=>∃D:List Int,r = .int .u32 (V 4294967296 ((zl.drop off).take (m+3))/V 4294967296 y)∧rows'=dR rows id (some ⟨ver,185,1,emap u32 (zl.take off++D)⟩)∧gY=clk ∧
   D.length=(zl.drop off).length∧cX 4294967296 D∧D.drop (m+3)=(zl.drop off).drop (m+3)∧V 4294967296 (D.take (m+3))=V 4294967296 ((zl.drop off).take (m+3))%V 4294967296 y):=by
 obtain⟨RO,hc⟩:=ar8 (D:=zl.drop off) (by simp;omega) O4 (lz.drop off) ly (by omega) dN
 have l1:=ly.nth (i:=m) (by omega)
 have l2:=ly.nth (i:=m+1) (by omega)
 have k0:=(lz.drop off).nth (i:=m) (by simp;omega)
 have k1:=(lz.drop off).nth (i:=m+1) (by simp;omega)
 have k2:=(lz.drop off).nth (i:=m+2) (by simp;omega)
 have n0:=gK zl off m
 have n1:=gK zl off (m+1)
 have n2:=gK zl off (m+2)
 have hDl:(zl.drop off).length=zl.length-off:=by simp
 have hYb:V 4294967296 y<4294967296^(m+2):=by have:=oY (by decide) ly;rwa [O4]at this
 have hX:V 4294967296 ((zl.drop off).take (m+3))=V 4294967296 ((zl.drop off).take (m+2))+4294967296^(m+2)*nth (zl.drop off) (m+2):=aV (by simp;omega)
 refine Q7 (E:=env) (fun _=>0) (t:=4) [(0, .own id ver off (m+3)),(1,us y)] Tryz.func271 rfl (by kernel_rfl) (by kernel_rfl) (show 2≤170 by decide) rfl (by simp) ?_
 refine aA [0,1] ?_
 refine W.sr ?_
 simp (disch:=omega) [gw,O4]
 refine bG [0,1,5] ?_
 have a1:((m:Int)+2-1)=((m+1:Nat):Int):=by omega
 have a2:((m:Int)+2-2)=(m:Int):=by omega
 refine W.sd ?_
 simp (disch:=omega) [gw,O4,a1,a2]
 refine bG [0,1,5,6,7] ?_
 rw [n0]at k0 RO
 rw [n1]at k1 RO
 rw [n2]at k2 RO hc hX
 generalize hxa:nth zl (off+m)=xa at *
 generalize hxb:nth zl (off+(m+1))=xb at *
 generalize hxc:nth zl (off+(m+2))=xc at *
 generalize htt:nth y (m+1)=top at *
 generalize hnn:nth y m=nx at *
 have hor:=(z8 (a:=xc*4294967296) (b:=xb) 32 (by omega) k1.1 ⟨xc,by rw [Int.mul_comm];rfl⟩ (by simpa using k1.2) (by omega)).1
 have htp:¬top=0:=by omega
 refine W.sd ?_
 have a3:((m:Int)+2).toNat=m+2:=by omega
 simp (disch:=omega) [gw,hr,a1,a3,hxb,hxc,hor]
 refine bG [0,1,5,6,7,8] ?_
 generalize hXX:V 4294967296 ((zl.drop off).take (m+3))=X at *
 generalize hYY:V 4294967296 y=Y at *
 have hY0:=RO.Y0
 have hX0:0≤X:=by rw [←hXX];exact bL (by decide) ((lz.drop off).take _)
 have hhd:xc*4294967296+xb≤top*4294967296+4294967296-1:=by omega
 have hf:=RO.first
 have hg0:=Int.ediv_nonneg RO.h0 (show 0≤top by omega)
 have XY:=Int.mul_ediv_add_emod (xc*4294967296+xb) top
 have FE:=Int.emod_nonneg (xc*4294967296+xb) htp
 have B6:=Int.emod_lt_of_pos (xc*4294967296+xb) (show 0<top by omega)
 have hgu:(xc*4294967296+xb)/top≤4294967297:=by
  rcases Int.lt_or_le 4294967297 ((xc*4294967296+xb)/top)with h | h
  ·exfalso
   have:=Int.mul_le_mul_of_nonneg_left (show 4294967298≤(xc*4294967296+xb)/top by omega) (show 0≤top by omega)
   omega
  ·exact h
 rw [Int.mul_comm]at XY
 have hh0:=RO.h0
 generalize hhe:xc*4294967296+xb=head at *
 have hwq:IntKind.u64.wrap (head/top)=head/top:=wrap_u64 hg0 (by omega)
 refine W.sr ?_
 simp (disch:=omega) [gw,htp,hwq]
 refine bG [0,1,5,6,7,8,9] ?_
 refine W.sr ?_
 simp (disch:=omega) [gw,htp]
 refine bG [0,1,5,6,7,9,10] ?_
 refine W.eN (fun σ=>∃(g:Int),σ=⟨fa [(0, .own id ver off (m+3)),(1,us y),(5, .int .i64 ((m:Int)+2)),(9, .int .u64 g)],rows,clk⟩∧0≤g∧g<4294967296∧X<(g+1)*Y∧g*Y<X+Y) ?_ ?_
 ·
  refine W.bE (fun k σ=>∃(g r:Int),σ=⟨fa [(0, .own id ver off (m+3)),(1,us y),(5, .int .i64 ((m:Int)+2)),(6, .int .u64 top),(7, .int .u64 nx),(9, .int .u64 g),(10, .int .u64 r)],rows,clk⟩∧k=g.toNat∧0≤g∧g≤4294967297∧0≤r∧r<4294967296∧g*top+r=head∧X<(g+1)*Y) (head/top).toNat ?_ ?_
  ·exact⟨_, .refl,head/top,head%top,rfl,rfl,hg0,hgu,FE,by omega,XY,hf⟩
  rintro k _ ⟨g,r,rfl,hk,q1,q2,q3,q4,q5,q6⟩
  refine W.seq ?_
  have ayw:0≤g*nx:=Int.mul_nonneg q1 l1.1
  refine W.fA (fun σ=>∃(b:Bool),σ=⟨fa [(0, .own id ver off (m+3)),(1,us y),(5, .int .i64 ((m:Int)+2)),(6, .int .u64 top),(7, .int .u64 nx),(9, .int .u64 g),(10, .int .u64 r),(71, .bool b)],rows,clk⟩∧(b=true↔4294967296≤g∨r*4294967296+xa<g*nx)) (fun K hK=>?_) ?_
  ·by_cases hb:4294967296≤g
   ·simp (disch:=omega) [gw,hb]
    exact hK _ _ (aB _ [0,1,5,6,7,9,10,71]) ⟨_,rfl,by simp [hb]⟩
   ·have aDS:g*nx≤4294967295*4294967295:=Int.mul_le_mul (by omega) (by omega) l1.1 (by omega)
    have hwr:IntKind.u64.wrap (g*nx)=g*nx:=wrap_u64 ayw (by omega)
    have ayx:=(z8 (a:=r*4294967296) (b:=xa) 32 (by omega) k0.1 ⟨r,by rw [Int.mul_comm];rfl⟩ (by simpa using k0.2) (by omega)).1
    simp (disch:=omega) [gw,hb,hwr,hr,a2,hxa,ayx]
    exact hK _ _ (aB _ [0,1,5,6,7,9,10,71]) ⟨_,rfl,by simp [hb]⟩
  rintro _ ⟨b,rfl,hb⟩
  refine bJ ?_ ?_<;>intro h
  ·have h:=hb.1 h
   have atv:X<g*Y:=by
    rcases h with h | h
    ·exact RO.big h
    ·exact RO.over q1 q5 h
   have hgp:1≤g:=by
    rcases Int.lt_or_le g 1 with h3 | h3
    ·exfalso
     have:g=0:=by omega
     rw [this,Int.zero_mul]at atv;omega
    ·exact h3
   have e5:(g-1)*top+(r+top)=head:=by rw [Int.sub_mul];omega
   have e6:X<(g-1+1)*Y:=by rw [Int.sub_add_cancel];exact atv
   refine W.skip ?_
   refine W.block ?_
   refine aA [0,1,5,6,7,9,10] ?_
   refine aA [0,1,5,6,7,9,10] ?_
   refine aA [0,1,5,6,7,9,10,78] ?_
   refine bJ ?_ ?_<;>intro h
   ·have h:4294967296≤r+top:=by simp at h;omega
    have KC:=RO.ab7 hhd e5 h
    have hnr:=RO.sZ (by omega) KC e5 (RO.ar6 (by omega) KC h)
    refine fH ?_
    exact⟨_,aB _ [0,1,5,9],g-1,rfl,by omega,KC,e6,hnr⟩
   ·have h:r+top<4294967296:=by simp at h;omega
    refine W.skip ?_
    exact⟨(g-1).toNat,_,aB _ [0,1,5,6,7,9,10],by omega,g-1,r+top,rfl,rfl,by omega,by omega,by omega,h,e5,e6⟩
  ·have h:¬(4294967296≤g∨r*4294967296+xa<g*nx):=fun h2=>by rw [hb.2 h2]at h;cases h
   have hnr:=RO.sZ q1 (by omega) q5 (by omega)
   refine fH ?_
   exact⟨_,aB _ [0,1,5,9],g,rfl,q1,by omega,q6,hnr⟩
 rintro _ ⟨g,rfl,g0,g1,hgX,hgY⟩
 clear hf hg0 XY FE B6 hgu hor
 refine aA [0,1,5,9,11,12] ?_
 refine W.seq ?_
 refine W.sr ?_
 simp (disch:=omega) [gw,O4]
 refine bG [0,1,5,9,11,12,79,80,81] ?_
 refine W.block ?_
 refine W.bE (fun q σ=>∃(i:Nat) (c β:Int) (z:List Int) (vV:Pm.Rows),σ=⟨fa [(0, .own id ver off (m+3)),(1,us y),(5, .int .i64 ((m:Int)+2)),(9, .int .u64 g),(11, .int .u64 c),(12, .int .u64 β),(79,us y),(80, .int .i64 ((m:Int)+2)),(81, .int .i64 i)],vV,clk⟩ ∧
  vV id=some ⟨ver,185,1,emap u32 z⟩∧(∀j,j≠id→vV j=rows j)∧q=m+2-i∧i≤m+2∧z.length=zl.length∧cX 4294967296 z∧z.take off=zl.take off∧(z.drop off).drop i=(zl.drop off).drop i∧0≤c∧c<4294967296∧(β=0∨β=1) ∧
  V 4294967296 ((z.drop off).take i)+g*V 4294967296 (y.take i)=V 4294967296 ((zl.drop off).take i)+(c+β)*4294967296^i) (m+2) ?_ ?_
 ·exact⟨_,Gh.fr [(0, .own id ver off (m+3)),(1,us y),(5, .int .i64 ((m:Int)+2)),(9, .int .u64 g),(11, .int .u64 0),(12, .int .u64 0),(79,us y),(80, .int .i64 ((m:Int)+2)),(81, .int .i64 (0:Nat))] (by simp),0,0,0,zl,rows,rfl,hr,fun _ _=>rfl,by omega,by omega,rfl,lz,rfl,rfl,by omega,by omega, .inl rfl,by simp [V]⟩
 rintro q _ ⟨i,c,β,z,vV,rfl,bS,hro,hq,hi,atw,lz2,hP,hD,c0,c1,hβ,hV⟩
 refine bV [0,1,5,9,11,12,79,80,81,82] ?_
 refine bJ ?_ ?_<;>intro h
 ·have hi:i<m+2:=by simp at h;omega
  have hw:=ly.nth (i:=i) (by omega)
  have hVy:=aV (b:=4294967296) (l:=y) (i:=i) (by omega)
  have hVx:=aV (b:=4294967296) (l:=zl.drop off) (i:=i) (by omega)
  have hxn:nth z (off+i)=nth (zl.drop off) i:=by
   rw [←gK]
   have:=congrArg (fun l=>nth l 0) hD
   simpa [gK]using this
  have hx:=(lz.drop off).nth (i:=i) (by omega)
  generalize nth (zl.drop off) i=x at *
  generalize hwe:nth y i=w at *
  obtain⟨s1,s2,β',qQ,s3,s4⟩:=ab9 ⟨g0,g1⟩ hw ⟨c0,c1⟩ hx hβ
  refine kY ?_
  refine W.sr ?_
  simp (disch:=omega) [gw,O4,hwe]
  refine bG [0,1,5,9,11,12,13,14,79,80,81] ?_
  have GF:IntKind.u64.wrap (g*w)=g*w:=wrap_u64 (Int.mul_nonneg g0 hw.1) (by omega)
  have D6:IntKind.u64.wrap (g*w+c)=g*w+c:=wrap_u64 s1.1 (by omega)
  refine W.sr ?_
  simp (disch:=omega) [gw,GF,D6]
  refine bG [0,1,5,9,12,13,15,79,80,81] ?_
  refine aA [0,1,5,9,11,12,13,15,79,80,81] ?_
  have hp3:IntKind.u32.wrap (g*w+c)=(g*w+c)%4294967296:=wrap_u32'
  have hp4:IntKind.u64.wrap (IntKind.u64.wrap (x-(g*w+c)%4294967296)-β)=(x-(g*w+c)%4294967296-β)%18446744073709551616:=by rw [jV,jV];omega
  refine W.sr ?_
  simp (disch:=omega) [gw,bS,hxn,hp3,hp4]
  refine bG [0,1,5,9,11,13,16,79,80,81] ?_
  have hs3:=s3
  have hs4:=s4
  generalize hss:(x-(g*w+c)%4294967296-β)%18446744073709551616=s at *
  have hp5:IntKind.u32.wrap s=s%4294967296:=wrap_u32'
  have hoi:off+i<z.length:=by omega
  refine W.cA (fun K hK=>?_)
  simp (disch:=omega) [gw,bS,hp5,s3,hoi]
  refine W.lw [0,1,5,9,11,12,79,80,81] hK ?_;clear hK K;simp
  refine W.cA (fun K hK=>?_);simp (disch:=omega) [gw]
  refine hK _ ⟨m+2-(i+1),_,aB _ [0,1,5,9,11,12,79,80,81],by omega,i+1,(g*w+c)/4294967296,β',z.set (off+i) (s%4294967296),_,rfl,by simp,fun j hj=>by simp [hj,hro j hj],by omega,by omega,by simp [atw],lz2.set ⟨by omega,by omega⟩,by rw [gP (by omega),hP],?_,s2.1,s2.2,qQ,?_⟩
  ·rw [mT,List.drop_set_of_lt (by omega)]
   have:=congrArg (List.drop 1) hD
   rw [List.drop_drop,List.drop_drop,List.drop_drop,List.drop_drop]at this
   rw [List.drop_drop,List.drop_drop]
   exact this
  ·rw [mT,fC (by simp;omega),hVy,hVx,s4,Int.pow_succ]
   have h10:=Int.mul_ediv_add_emod (g*w+c) 4294967296
   generalize (g*w+c)/4294967296=pq at *
   generalize (g*w+c)%4294967296=pr at *
   generalize (4294967296:Int)^i=bi at *
   have e7:g*(V 4294967296 (y.take i)+bi*w)=g*V 4294967296 (y.take i)+bi*(g*w):=by grind
   rw [e7]
   have e8:g*w=4294967296*pq+pr-c:=by omega
   rw [e8]
   have e9:V 4294967296 ((z.drop off).take i)=V 4294967296 ((zl.drop off).take i)+(c+β)*bi-g*V 4294967296 (y.take i):=by omega
   rw [e9]
   grind
 ·have hi:i=m+2:=by simp at h;omega
  subst hi
  rw [List.take_of_length_le (show y.length≤m+2 by omega),hYY]at hV
  have hxn:nth z (off+(m+2))=xc:=by
   rw [←n2,←gK]
   have:=congrArg (fun l=>nth l 0) hD
   simpa [gK]using this
  have hV0:=bL (b:=4294967296) (by decide) ((lz2.drop off).take (m+2))
  have hV1:=oY (b:=4294967296) (by decide) ((lz2.drop off).take (m+2))
  rw [List.length_take,Nat.min_eq_left (by simp;omega)]at hV1
  have hXg:X-g*Y=V 4294967296 ((z.drop off).take (m+2))+4294967296^(m+2)*(xc-c-β):=by
   rw [hX]
   have:(c+β)*4294967296^(m+2)=4294967296^(m+2)*c+4294967296^(m+2)*β:=by grind
   rw [Int.mul_sub,Int.mul_sub];omega
  have hoi:off+(m+2)<z.length:=by omega
  generalize hbn:(4294967296:Int)^(m+2)=bn at *
  have hp4:IntKind.u64.wrap (IntKind.u64.wrap (xc-c)-β)=(xc-c-β)%18446744073709551616:=by rw [jV,jV];omega
  refine fH ?_
  refine W.sr ?_
  simp (disch:=omega) [gw,bS,a3,hxn,hp4]
  refine bG [0,1,5,9,17] ?_
  generalize hss:(xc-c-β)%18446744073709551616=s at *
  have hp5:IntKind.u32.wrap s=s%4294967296:=wrap_u32'
  refine W.sr ?_
  simp (disch:=omega) [gw,bS,a3,hp5,hoi]
  refine bG [0,1,5,9,17] ?_
  have agY:(z.set (off+(m+2)) (s%4294967296)).drop off=(z.drop off).set (m+2) (s%4294967296):=mT _ _ _ _
  have anp:(z.set (off+(m+2)) (s%4294967296)).take off=zl.take off:=by rw [gP (by omega),hP]
  have agZ:((z.drop off).set (m+2) (s%4294967296)).drop (m+3)=(zl.drop off).drop (m+3):=by
   rw [List.drop_set_of_lt (by omega)]
   have:=congrArg (List.drop 1) hD
   rw [List.drop_drop,List.drop_drop,List.drop_drop,List.drop_drop]at this
   rw [List.drop_drop,List.drop_drop]
   exact this
  have GG:cX 4294967296 ((z.drop off).set (m+2) (s%4294967296)):=(lz2.drop off).set ⟨by omega,by omega⟩
  refine W.seq ?_
  rcases Int.lt_or_le (xc-c-β) 0 with acM | lB
  ·-- one too many
   have ag0:s/9223372036854775808=1:=by omega
   refine W.sr ?_
   simp (disch:=omega) [gw,ag0]
   refine bG [0,1,5,9,129] ?_
   refine bJ ?_ ?_<;>intro h
   ·cases h
   refine W.skip ?_
   have ayB:bn*(xc-c-β) = - bn:=by
    rcases Int.lt_or_le (xc-c-β) (-1)with h | h
    ·exfalso
     have:=Int.mul_le_mul_of_nonneg_left (show xc-c-β ≤ -2 by omega) (show 0≤bn by omega)
     omega
    ·have:xc-c-β = -1:=by omega
     rw [this];omega
   have hsv:s%4294967296=4294967295:=by
    rcases Int.lt_or_le (xc-c-β) (-1)with h | h
    ·exfalso
     have:=Int.mul_le_mul_of_nonneg_left (show xc-c-β ≤ -2 by omega) (show 0≤bn by omega)
     omega
    ·omega
   rw [ayB]at hXg
   obtain⟨hq1,hq2⟩:=RO.ar7 hgY (by omega)
   have hgp:0≤g-1:=by rw [hq1];exact Int.ediv_nonneg hX0 (by omega)
   rw [hsv]at agY anp agZ GG ⊢
   have atA:((z.drop off).set (m+2) 4294967295).take (m+2)=(z.drop off).take (m+2):=gP (Nat.le_refl _)
   rw [←atA]at hXg hV0 hV1
   have atB:nth ((z.drop off).set (m+2) 4294967295) (m+2)=4294967295:=eW (by simp;omega)
   generalize tZ:z.set (off+(m+2)) 4294967295=z2 at *
   have ayC:z2.length=zl.length:=by rw [←tZ];simp [atw]
   rw [←agY]at hXg hV0 hV1 atB GG agZ
   have lz3:cX 4294967296 z2:=by rw [←tZ];exact lz2.set ⟨by omega,by omega⟩
   clear hss hp5 hp4 ag0 agY atA hV hxn hD hP GG lz2
   refine aA [0,1,5,9,18] ?_
   refine W.seq ?_
   refine W.sr ?_
   simp (disch:=omega) [gw,O4]
   refine bG [0,5,9,18,132,133,134] ?_
   refine W.block ?_
   refine W.bE (fun q σ=>∃(i:Nat) (k:Int) (z:List Int) (vV:Pm.Rows),σ=⟨fa [(0, .own id ver off (m+3)),(5, .int .i64 ((m:Int)+2)),(9, .int .u64 g),(18, .int .u64 k),(132,us y),(133, .int .i64 ((m:Int)+2)),(134, .int .i64 i)],vV,clk⟩ ∧
    vV id=some ⟨ver,185,1,emap u32 z⟩∧(∀j,j≠id→vV j=rows j)∧q=m+2-i∧i≤m+2∧z.length=zl.length∧cX 4294967296 z∧z.take off=zl.take off∧(z.drop off).drop i=(z2.drop off).drop i∧(k=0∨k=1) ∧
    V 4294967296 ((z.drop off).take i)+k*4294967296^i=V 4294967296 ((z2.drop off).take i)+V 4294967296 (y.take i)) (m+2) ?_ ?_
   ·exact⟨_,Gh.fr [(0, .own id ver off (m+3)),(5, .int .i64 ((m:Int)+2)),(9, .int .u64 g),(18, .int .u64 0),(132,us y),(133, .int .i64 ((m:Int)+2)),(134, .int .i64 (0:Nat))] (by simp),0,0,z2,_,rfl,by simp,fun j hj=>by simp [hj,hro j hj],by omega,by omega,ayC,lz3,anp,rfl, .inl rfl,by simp [V]⟩
   rintro q _ ⟨i,k,z,aBR,rfl,b8,atC,hq,hi,ayD,lz4,hP,hD,hk,hV⟩
   refine bV [0,5,9,18,132,133,134,135] ?_
   refine bJ ?_ ?_<;>intro h
   ·have hi:i<m+2:=by simp at h;omega
    have hw:=ly.nth (i:=i) (by omega)
    have hVy:=aV (b:=4294967296) (l:=y) (i:=i) (by omega)
    have hVx:=aV (b:=4294967296) (l:=z2.drop off) (i:=i) (by simp;omega)
    have hxn:nth z (off+i)=nth (z2.drop off) i:=by
     rw [←gK]
     have:=congrArg (fun l=>nth l 0) hD
     simpa [gK]using this
    have hx:=(lz3.drop off).nth (i:=i) (by simp;omega)
    generalize nth (z2.drop off) i=x at *
    generalize hwe:nth y i=w at *
    refine kY ?_
    refine W.sr ?_
    simp (disch:=omega) [gw,O4,hwe]
    refine bG [0,5,9,18,19,20,132,133,134] ?_
    refine W.sr ?_
    simp (disch:=omega) [gw,b8,hxn]
    refine bG [0,5,9,19,21,132,133,134] ?_
    have hp6:IntKind.u32.wrap (x+w+k)=(x+w+k)%4294967296:=wrap_u32'
    have ayE:off+i<z.length:=by omega
    refine W.cA (fun K hK=>?_)
    simp (disch:=omega) [gw,b8,hp6,ayE]
    refine W.lw [0,5,9,18,132,133,134] hK ?_;clear hK K;simp
    refine W.cA (fun K hK=>?_);simp (disch:=omega) [gw]
    refine hK _ ⟨m+2-(i+1),_,aB _ [0,5,9,18,132,133,134],by omega,i+1,(x+w+k)/4294967296,z.set (off+i) ((x+w+k)%4294967296),_,rfl,by simp,fun j hj=>by simp [hj,atC j hj],by omega,by omega,by simp [ayD],lz4.set ⟨by omega,by omega⟩,by rw [gP (by omega),hP],?_,by omega,?_⟩
    ·rw [mT,List.drop_set_of_lt (by omega)]
     have:=congrArg (List.drop 1) hD
     rw [List.drop_drop,List.drop_drop,List.drop_drop,List.drop_drop]at this
     rw [List.drop_drop,List.drop_drop]
     exact this
    ·rw [mT,fC (by simp;omega),hVy,hVx,Int.pow_succ]
     have h10:=Int.mul_ediv_add_emod (x+w+k) 4294967296
     generalize (x+w+k)/4294967296=pq at *
     generalize (x+w+k)%4294967296=pr at *
     generalize (4294967296:Int)^i=bi at *
     have e8:pr=x+w+k-4294967296*pq:=by omega
     rw [e8]
     have e9:V 4294967296 ((z.drop off).take i)=V 4294967296 ((z2.drop off).take i)+V 4294967296 (y.take i)-k*bi:=by omega
     rw [e9]
     grind
   ·have hi:i=m+2:=by simp at h;omega
    subst hi
    rw [List.take_of_length_le (show y.length≤m+2 by omega),hYY,hbn]at hV
    have hxn:nth z (off+(m+2))=4294967295:=by
     rw [←atB,←gK]
     have:=congrArg (fun l=>nth l 0) hD
     simpa [gK]using this
    have Q8:=bL (b:=4294967296) (by decide) ((lz4.drop off).take (m+2))
    have hV3:=oY (b:=4294967296) (by decide) ((lz4.drop off).take (m+2))
    rw [List.length_take,Nat.min_eq_left (by simp;omega),hbn]at hV3
    have hk1:k=1:=by
     rcases hk with rfl | rfl
     ·exfalso;omega
     ·rfl
    subst hk1
    have ayF:off+(m+2)<z.length:=by omega
    have hwc:IntKind.u32.wrap 4294967296=0:=rfl
    have hwg:IntKind.u32.wrap g=g:=wrap_u32 g0 g1
    refine fH ?_
    refine W.sr ?_
    simp (disch:=omega) [gw,b8,a3,hxn,ayF,hwc]
    refine bG [9] ?_
    refine W.sr ?_
    simp (disch:=omega) [gw,hwg]
    refine bG [4] ?_
    refine W.ret ?_
    refine⟨(z.drop off).set (m+2) 0,by simp [hq1],?_,rfl,by simp;omega,(lz4.drop off).set ⟨by omega,by omega⟩,?_,?_⟩
    ·have hzz:z.set (off+(m+2)) 0=zl.take off++(z.drop off).set (m+2) 0:=by
      rw [←mT,←hP,←gP (l:=z) (i:=off+(m+2)) (x:=0) (show off≤off+(m+2)by omega),List.take_append_drop]
     rw [hzz]
     funext j
     by_cases hj:j=id
     ·subst hj;simp
     ·simp [hj,atC j hj,dR]
    ·rw [List.drop_set_of_lt (by omega),←agZ]
     have:=congrArg (List.drop 1) hD
     rw [List.drop_drop,List.drop_drop,List.drop_drop,List.drop_drop]at this
     rw [List.drop_drop,List.drop_drop]
     exact this
    ·rw [show m+3=(m+2)+1 from rfl,fC (by simp;omega),hbn,←hq2]
     omega
  ·have ag0:s/9223372036854775808=0:=by omega
   have ayH:0≤X-g*Y:=by
    rw [hXg]
    have:=Int.mul_nonneg (show 0≤bn by omega) lB
    omega
   obtain⟨hq1,hq2⟩:=RO.right hgX ayH
   refine W.sr ?_
   simp (disch:=omega) [gw,ag0]
   refine bG [0,1,5,9,129] ?_
   refine bJ ?_ ?_<;>intro h
   ·have hwg:IntKind.u32.wrap g=g:=wrap_u32 g0 g1
    refine W.sr ?_
    simp (disch:=omega) [gw,hwg]
    refine bG [4] ?_
    refine W.ret ?_
    refine⟨(z.drop off).set (m+2) (s%4294967296),by simp [hq1],?_,rfl,by simp;omega,GG,agZ,?_⟩
    ·have hzz:z.set (off+(m+2)) (s%4294967296)=zl.take off++(z.drop off).set (m+2) (s%4294967296):=by
      rw [←anp,←agY,List.take_append_drop]
     rw [hzz]
     funext j
     by_cases hj:j=id
     ·subst hj;simp
     ·simp [hj,hro j hj,dR]
    ·rw [show m+3=(m+2)+1 from rfl,fC (by simp;omega),hbn,←hq2,hXg]
     have:s%4294967296=xc-c-β:=by omega
     rw [this]
   ·cases h
end Go.Proofs.YtiobceocpabjdaaGreat
