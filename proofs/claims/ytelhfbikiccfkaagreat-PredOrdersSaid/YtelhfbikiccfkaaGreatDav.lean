import Derived.Test.YtelhfbikiccfkaaGreatDam
import Derived.Test.YtelhfbikiccfkaaGreatDau
set_option linter.unusedSimpArgs false
set_option linter.unusedVariables false
namespace Go.Proofs.YtelhfbikiccfkaaGreat
open Go Pm
def JP(X Y:List Int)(vx vy ia ib:Int):Bool:=if X = []then(if Y = []then decide (ia<ib)else decide (0<vy))else decide (0<vx)
set_option maxHeartbeats 2000000 in
theorem GD{a b:PT}{x X Y:List Int}{an ad bn bd vx vy:Int}(hX:X.length<1000000)(hY:Y.length<1000000)(h1:X ≠ []→aD env.P 32 [Po X, .ag (G9 x an ad bn bd)] (.int .i64 vx))(h2:Y ≠ []→aD env.P 32 [Po Y, .ag (G9 x an ad bn bd)] (.int .i64 vy)) :
  aD env.P 126 [.ag (G9 x an ad bn bd), .ag (j2 a), .ag (j2 b), .sl [[Po X],[Po Y]]] (.bool (JP X Y vx vy a.id b.id)):=by
 simp only [G9,o7]at *
 refine b6 [(0, .ag (G9 x an ad bn bd)),(1, .ag (j2 a)),(2, .ag (j2 b)),(3, .sl [[Po X],[Po Y]])] Tryz.func126 ?_
 refine aA [3,4,5,6] ?_
 refine aM [4,5,6,11,12,13] ?_
 refine W.block ?_
 refine W.bE (fun k σ=>∃(i v4 e4 v5 e5 v6 e6:Nat) (rows:Pm.Rows) (clk:Nat),σ=⟨fa [(4, .ptr 4 v4 0 0),(5, .ptr 5 v5 0 0),(6, .ptr 6 v6 0 0),(11, .sl [[Po X],[Po Y]]),(12, .int .i64 2),(13, .int .i64 i)],rows,clk⟩∧rows 4=some ⟨v4,e4,9,[G9 x an ad bn bd]⟩∧rows 5=some ⟨v5,e5,5,[j2 a]⟩∧rows 6=some ⟨v6,e6,5,[j2 b]⟩∧i≤2∧(0<i→X = [])∧(1<i→Y = [])∧i+k=2) 2 ?_ ?_
 ·exact⟨_, .refl,0,_,_,_,_,_,_,_,_,rfl,by simp;rfl,by simp;rfl,by simp;rfl,by omega,by omega,by omega,by omega⟩
 rintro k _ ⟨i,v4,e4,v5,e5,v6,e6,rows,clk,rfl,r4,r5,r6,hi,e1,e2,EV⟩
 simp only [G9,o7]at r4 r5 r6
 refine cB [4,5,6,11,12,13,14] ?_
 refine bF ?_ ?_<;>intro h
 ·simp at h
  refine jV ?_
  have hc:i=0∨i=1:=by omega
  rcases hc with rfl | rfl
  ·refine aA [4,5,6,10,11,12,13] ?_
   refine aA [4,5,6,10,11,12,13,19] ?_
   refine bF ?_ ?_<;>intro h
   ·simp at h
    have hn:X ≠ []:=fun e=>by rw [e]at h;simp at h
    have h1:=h1 hn
    refine W.sr ?_
    simp (disch:=omega) [gw,r4]
    refine bU [8] h1 ?_
    refine W.ret ?_
    unfold JP
    rw [if_neg hn]
    simp [go]
   ·simp at h
    have hn:X = []:=by simpa using h
    refine W.skip ?_
    refine W.cE (fun K hK=>?_);simp (disch:=omega) [gw]
    refine hK _ ⟨1,_,aC _ [4,5,6,11,12,13],by omega,1,v4,e4,v5,e5,v6,e6,_,_,rfl,r4,r5,r6,by omega,fun _=>hn,by omega,by omega⟩
  ·have hn:=e1 (by omega)
   refine aA [4,5,6,10,11,12,13] ?_
   refine aA [4,5,6,10,11,12,13,19] ?_
   refine bF ?_ ?_<;>intro h
   ·simp at h
    have hm:Y ≠ []:=fun e=>by rw [e]at h;simp at h
    have h2:=h2 hm
    refine W.sr ?_
    simp (disch:=omega) [gw,r4]
    refine bU [8] h2 ?_
    refine W.ret ?_
    unfold JP
    rw [if_pos hn,if_neg hm]
    simp [go]
   ·simp at h
    have hm:Y = []:=by simpa using h
    refine W.skip ?_
    refine W.cE (fun K hK=>?_);simp (disch:=omega) [gw]
    refine hK _ ⟨0,_,aC _ [4,5,6,11,12,13],by omega,2,v4,e4,v5,e5,v6,e6,_,_,rfl,r4,r5,r6,by omega,fun _=>hn,fun _=>hm,by omega⟩
 ·simp at h
  have CR:i=2:=by omega
  subst CR
  refine eV ?_
  refine W.sr ?_
  simp (disch:=omega) [gw,r5,r6]
  refine bN [8] ?_
  refine W.ret ?_
  unfold JP
  rw [if_pos (e1 (by omega)),if_pos (e2 (by omega))]
  simp [go]
section
variable {a b:PT} {x X Y:List Int} {an ad bn bd:Int} {v:Bool}
theorem RM(r1:aD env.P 127 [.ag a.c.cells, .ag b.c.cells] (Po X))(r2:aD env.P 128 [.ag a.c.cells, .ag b.c.cells] (Po Y))(h:aD env.P 126 [.ag (G9 x an ad bn bd), .ag (j2 a), .ag (j2 b), .sl [[Po X],[Po Y]]] (.bool v)):aD env.P 46 [.ag (j2 a), .ag (j2 b), .ag (G9 x an ad bn bd)] (.bool v):=by
 simp only [G9,o7,RC.cA]at *
 refine b6 [(0, .ag (j2 a)),(1, .ag (j2 b)),(2, .ag (G9 x an ad bn bd))] Tryz.func46 ?_
 refine aA [3,4,5] ?_
 refine iQ ?_
 refine bW r1 ?_
 refine bW r2 ?_
 refine bU [6] h ?_
 exact b7
theorem WL(r1:aD env.P 127 [.ag b.c.cells, .ag a.c.cells] (Po X))(r2:aD env.P 128 [.ag b.c.cells, .ag a.c.cells] (Po Y))(h:aD env.P 126 [.ag (G9 x an ad bn bd), .ag (j2 a), .ag (j2 b), .sl [[Po Y],[Po X]]] (.bool v)):aD env.P 47 [.ag (j2 a), .ag (j2 b), .ag (G9 x an ad bn bd)] (.bool v):=by
 simp only [G9,o7,RC.cA]at *
 refine b6 [(0, .ag (j2 a)),(1, .ag (j2 b)),(2, .ag (G9 x an ad bn bd))] Tryz.func47 ?_
 refine aA [3,4,5] ?_
 refine iQ ?_
 refine bW r2 ?_
 refine bW r1 ?_
 refine bU [6] h ?_
 exact b7
end
def y8(p:PT):List PV:=[PP (qd p.c.nc.x p.c.nc.d),PP (qd p.c.nc.y p.c.nc.d),Po p.c.nc.x,Po p.c.nc.y, .bool (decide (p.c.nc.d<0)),aG u32 (aP LL p.c.nc.d.natAbs), .int .i64 p.id]
@[simp] theorem y9{p:PT}:y8 p = [PP (qd p.c.nc.x p.c.nc.d),PP (qd p.c.nc.y p.c.nc.d),Po p.c.nc.x,Po p.c.nc.y, .bool (decide (p.c.nc.d<0)),aG u32 (aP LL p.c.nc.d.natAbs), .int .i64 p.id]:=rfl
def RN(vx vy ia ib:Int):Bool:=if vx=0 then(if vy=0 then decide (ia<ib)else decide (0<vy))else decide (0<vx)
theorem WM{p:PT}(h:aD env.P 193 [.ag p.c.cells] (.ag p.c.nc.doc)):aD env.P 118 [.ag (j2 p)] (.ag (y8 p)):=by
 simp only [o7,y9,RC.cA,CV.nP]at *
 refine b6 [(0, .ag (j2 p))] Tryz.func118 ?_
 refine aA [1,2] ?_
 refine iQ ?_
 refine bU [2] h ?_
 exact b7
section
variable {a b:PT} {x X Y:List Int} {c:List ZX} {an ad bn bd vx vy:Int}
theorem HJ(r1:aD env.P 44 [.ag a.c.nc.doc, .ag b.c.nc.doc] (PI X))(r2:aD env.P 129 [.ag a.c.nc.doc, .ag b.c.nc.doc] (PI Y))(h1:aD env.P 35 [PI X, .ag (gB x c an ad bn bd)] (.int .i64 vx))(h2:aD env.P 35 [PI Y, .ag (gB x c an ad bn bd)] (.int .i64 vy)) :
  aD env.P 48 [.ag (y8 a), .ag (y8 b), .ag (gB x c an ad bn bd)] (.bool (RN vx vy a.id b.id)):=by
 simp only [gB,y9,CV.nP]at *
 refine b6 [(0, .ag (y8 a)),(1, .ag (y8 b)),(2, .ag (gB x c an ad bn bd))] Tryz.func48 ?_
 refine cB [3,4,5] ?_
 refine iQ ?_
 refine bW r1 ?_
 refine bU [3,4,5,7] h1 ?_
 refine aA [3,4,5,7,17] ?_
 refine bF ?_ ?_<;>intro h
 ·simp at h
  refine aA [6] ?_
  refine W.ret ?_
  unfold RN
  rw [if_neg h]
  simp [go]
 ·simp at h
  refine W.skip ?_
  refine W.seq ?_
  refine iQ ?_
  refine bW r2 ?_
  refine bU [3,4,8] h2 ?_
  refine aA [3,4,8,28] ?_
  refine W.cond ⟨_,rfl,fun h'=>?_,fun h'=>?_⟩
  ·simp at h'
   refine aA [6] ?_
   refine W.ret ?_
   unfold RN
   rw [if_pos h,if_neg h']
   simp [go]
  ·simp at h'
   refine W.skip ?_
   refine aA [6] ?_
   refine W.ret ?_
   unfold RN
   rw [if_pos h,if_pos h']
   simp [go]
theorem MW(r1:aD env.P 44 [.ag b.c.nc.doc, .ag a.c.nc.doc] (PI X))(r2:aD env.P 129 [.ag b.c.nc.doc, .ag a.c.nc.doc] (PI Y))(h1:aD env.P 35 [PI X, .ag (gB x c an ad bn bd)] (.int .i64 vx))(h2:aD env.P 35 [PI Y, .ag (gB x c an ad bn bd)] (.int .i64 vy)) :
  aD env.P 49 [.ag (y8 a), .ag (y8 b), .ag (gB x c an ad bn bd)] (.bool (RN vy vx a.id b.id)):=by
 simp only [gB,y9,CV.nP]at *
 refine b6 [(0, .ag (y8 a)),(1, .ag (y8 b)),(2, .ag (gB x c an ad bn bd))] Tryz.func49 ?_
 refine cB [3,4,5] ?_
 refine iQ ?_
 refine bW r2 ?_
 refine bU [3,4,5,7] h2 ?_
 refine aA [3,4,5,7,17] ?_
 refine bF ?_ ?_<;>intro h
 ·simp at h
  refine aA [6] ?_
  refine W.ret ?_
  unfold RN
  rw [if_neg h]
  simp [go]
 ·simp at h
  refine W.skip ?_
  refine W.seq ?_
  refine iQ ?_
  refine bW r1 ?_
  refine bU [3,4,8] h1 ?_
  refine aA [3,4,8,28] ?_
  refine W.cond ⟨_,rfl,fun h'=>?_,fun h'=>?_⟩
  ·simp at h'
   refine aA [6] ?_
   refine W.ret ?_
   unfold RN
   rw [if_pos h,if_neg h']
   simp [go]
  ·simp at h'
   refine W.skip ?_
   refine aA [6] ?_
   refine W.ret ?_
   unfold RN
   rw [if_pos h,if_pos h']
   simp [go]
end
def ZZ(cu:PT→RC)(p:PT):PT:=⟨cu p,p.id%1000⟩
def AW(O:List PT)(e:Int):Bool:=O.any fun q=>q.id==e
def pO(cu:PT→RC)(n:Nat)(O:List PT):List PT→List PT
 | []=>O
 | p::r=>if n≤O.length then O else pO cu n (if AW O (p.id%1000)=true then O else O ++ [ZZ cu p]) r
@[simp] theorem ama{v e n:Nat}{l:List PT}:dG (some ⟨v,e,n,emap j2 l⟩)=True:=cN fun _=>rfl
@[simp] theorem amb{v e n:Nat}{l:List PT}:dG (some ⟨v,e,n,emap y8 l⟩)=True:=cN fun _=>rfl
@[simp] theorem apW{l:List PT}:bT 7 (emap y8 l)=True:=cY fun _=>rfl
theorem ajJ{cu:PT→RC}{n:Nat}{O:List PT}(h:n≤O.length):∀r,pO cu n O r=O
 | []=>rfl
 | p::r=>by unfold pO;rw [if_pos h]
theorem ajK{cu:PT→RC}{n:Nat}{O l:List PT}{i:Nat}(h:O.length<n)(hi:i<l.length):pO cu n O (l.drop i)=pO cu n (if AW O ((nth l i).id%1000)=true then O else O ++ [ZZ cu (nth l i)]) (l.drop (i+1)):=by
 rw [List.drop_eq_getElem_cons hi,←dE hi]
 conv=>lhs;unfold pO
 rw [if_neg (by omega)]
theorem ab3{O:List PT}{e:Int}{j:Nat}(h:j<O.length):AW (O.take (j+1)) e=(AW (O.take j) e || (nth O j).id==e):=by
 rw [List.take_succ_eq_append_getElem h,←dE h]
 simp [AW]
theorem ags{O:List PT}{e:Int}:AW (O.take O.length) e=AW O e:=by rw [List.take_length]
theorem Z0{cu:PT→RC}{n:Nat}{l:List PT}:∀(r O:List PT),(∀q∈r,q∈l)→O.length≤n→(∀q∈O,∃p∈l,q=ZZ cu p)→(O.map PT.id).Nodup→(pO cu n O r).length≤n∧(∀q∈pO cu n O r,∃p∈l,q=ZZ cu p)∧((pO cu n O r).map PT.id).Nodup
 | [],O,_,h1,h2,h3=>⟨h1,h2,h3⟩
 | p::r,O,h0,h1,h2,h3=>by
  unfold pO
  split
  ·exact⟨h1,h2,h3⟩
  ·rename_i hn
   refine Z0 r _ (fun q hq=>h0 q (by simp [hq])) ?_ ?_ ?_
   ·split
    ·exact h1
    ·simp;omega
   ·split
    ·exact h2
    ·intro q hq
     simp only [List.mem_append,List.mem_singleton]at hq
     rcases hq with hq | hq
     ·exact h2 q hq
     ·exact⟨p,h0 p (by simp),hq⟩
   ·split
    ·exact h3
    ·rename_i hp
     rw [List.map_append,List.nodup_append]
     refine⟨h3,by simp,?_⟩
     intro a ha b hb
     simp only [List.map_cons,List.map_nil,List.mem_singleton]at hb
     subst hb
     intro e
     apply hp
     simp only [List.mem_map]at ha
     obtain⟨q,hq,he⟩:=ha
     simp only [AW,List.any_eq_true]
     exact⟨q,hq,by simp [he,e,ZZ]⟩
theorem RO{c:Prop}[Decidable c]{f g:Pm.Rows}{j:Nat}:(if c then f else g) j=if c then f j else g j:=by split<;>rfl
set_option maxHeartbeats 2000000 in
theorem RQ{l:List PT}{n:Nat}{cu:PT→RC}(hl:l.length<9223372036854775808)(hn:n=2∨n=3)(hC:∀p∈l,aD env.P 116 [.ag p.c.cells, .int .i64 3, .int .i64 1] (.ag (p.c.cut 3 1).cells))(h2:n=2 → ∀p,cu p=p.c.cut 3 1)(h3:n=3 → ∀p∈l,aD env.P 117 [.ag p.c.cells, .int .i64 999] (.ag (cu p).cells))(hF:∀p∈l,aD env.P 118 [.ag (j2 (ZZ cu p))] (.ag (y8 (ZZ cu p))))(iV:∀p∈l, -9223372036854775808≤p.id∧p.id<9223372036854775808) :
  aD env.P 42 [aG j2 l, .int .i64 n] (.fE [aG j2 (pO cu n [] l),aG y8 (pO cu n [] l)]):=by
 have hn3:n≤3:=by omega
 have hz:pO cu n [] (l.drop 0)=pO cu n [] l:=by rw [List.drop_zero]
 generalize pO cu n [] l=R at *
 refine b6 [(0,aG j2 l),(1, .int .i64 n)] Tryz.func42 ?_
 refine aA [0,1] ?_
 refine aA [0,1,6] ?_
 refine aA [0,1,6,7] ?_
 refine W.nil 6 6 94 5 (by simp) (by decide) (fun K hK=>?_)
 refine W.lw [0,1,6,7] hK ?_;clear hK K;simp
 refine W.nil 7 7 90 7 (by simp) (by decide) (fun K hK=>?_)
 refine W.lw [0,1,6,7] hK ?_;clear hK K;simp
 refine aM [0,1,6,7,8] ?_
 refine W.block ?_
 refine W.bE (fun k σ=>∃(O:List PT) (i v6 v7:Nat) (rows:Pm.Rows) (clk:Nat),σ=⟨fa [(0,aG j2 l),(1, .int .i64 n),(6, .own 6 v6 0 O.length),(7, .own 7 v7 0 O.length),(8, .int .i64 i)],rows,clk⟩∧rows 6=some ⟨v6,94,5,emap j2 O⟩∧rows 7=some ⟨v7,90,7,emap y8 O⟩∧O.length≤n∧pO cu n O (l.drop i)=R∧i+k=l.length) l.length ?_ ?_
 ·exact⟨_, .refl,[],0,_,_,_,_,rfl,by simp [emap],by simp [emap],by simp,hz,by omega⟩
 rintro k _ ⟨O,i,v6,v7,rows,clk,rfl,lB,pT,hO,hR,EV⟩
 have l6:(emap j2 O).length=O.length:=by simp [emap]
 have l7:(emap y8 O).length=O.length:=by simp [emap]
 refine W.seq ?_
 by_cases hi:i<l.length
 ·by_cases hm:O.length<n
  ·have kN:(i:Int)<l.length:=by omega
   have hm':(O.length:Int)<n:=by omega
   have hCi:=hC _ (bS hi)
   have hFi:=hF _ (bS hi)
   have h3i:n=3→_:=fun e=>h3 e _ (bS hi)
   have hdi:=iV _ (bS hi)
   have hWi:=oE (nth l i).id 1000 hdi (by decide) (by decide)
   have iP:R=pO cu n (if AW O (ZZ cu (nth l i)).id=true then O else O ++ [ZZ cu (nth l i)]) (l.drop (i+1)):=by rw [←hR];exact ajK hm hi
   have h2i:n=2→cu (nth l i)=(nth l i).c.cut 3 1:=fun e=>h2 e _
   simp only [o7,RC.cA,ZZ]at hCi h3i
   refine W.sr ?_
   simp (disch:=omega) [gw,hi,hm,kN,hm',lB]
   refine bN [0,1,6,7,8,21] ?_
   refine bF ?_ ?_<;>intro h
   ·refine W.skip ?_
    refine W.dV (fun σ=>∃(O':List PT) (v6 v7:Nat) (rows:Pm.Rows) (clk:Nat),σ=⟨fa [(0,aG j2 l),(1, .int .i64 n),(6, .own 6 v6 0 O'.length),(7, .own 7 v7 0 O'.length),(8, .int .i64 i)],rows,clk⟩∧rows 6=some ⟨v6,94,5,emap j2 O'⟩∧rows 7=some ⟨v7,90,7,emap y8 O'⟩∧O'.length≤n∧pO cu n O' (l.drop (i+1))=R) ?_ ?_
    ·refine W.sd ?_
     simp (disch:=omega) [gw,hi]
     refine aB hCi ?_
     simp (disch:=omega) [gw,hi]
     refine bW hWi ?_
     rw [if_pos (by kernel_rfl)]
     simp (disch:=omega) [gw]
     refine bN [0,1,6,7,8,9] ?_
     refine W.gJ (fun σ=>∃(v9 e9:Nat) (rows:Pm.Rows) (clk:Nat),σ=⟨fa [(0,aG j2 l),(1, .int .i64 n),(6, .own 6 v6 0 O.length),(7, .own 7 v7 0 O.length),(8, .int .i64 i),(9, .ptr 9 v9 0 0)],rows,clk⟩∧rows 6=some ⟨v6,94,5,emap j2 O⟩∧rows 7=some ⟨v7,90,7,emap y8 O⟩∧rows 9=some ⟨v9,e9,5,[j2 (ZZ cu (nth l i))]⟩) ?_ ?_
     ·refine aA [0,1,6,7,8,9,38] ?_
      refine bF ?_ ?_<;>intro h
      ·simp at h
       have e3:n=3:=by omega
       have h3i:=h3i e3
       refine W.cE (fun K hK=>?_)
       simp (disch:=omega) [gw,hi]
       refine aB h3i ?_
       simp (disch:=omega) [gw,hi]
       exact hK _ ⟨_,aC _ [0,1,6,7,8,9],_,_,_,_,rfl,by simp [lB],by simp [pT],by simp [ZZ];rfl⟩
      ·simp at h
       have e3:n=2:=by omega
       rw [←h2i e3]
       refine aA [0,1,6,7,8,9,47] ?_
       refine bF ?_ ?_<;>intro h
       ·simp at h
        omega
       ·simp at h
        refine W.skip ?_
        exact⟨_,aC _ [0,1,6,7,8,9],_,_,_,_,rfl,by simp [lB],by simp [pT],by simp [ZZ];rfl⟩
     clear lB pT rows clk
     rintro _ ⟨v9,e9,rows,clk,rfl,lB,pT,U2⟩
     clear hCi h3i h2i hWi
     generalize ZZ cu (nth l i)=q at *
     simp only [o7,y9]at hFi U2
     refine aA [0,1,6,7,8,9,10] ?_
     refine W.seq ?_
     refine W.sr ?_
     simp (disch:=omega) [gw,lB]
     refine bN [0,1,6,7,8,9,10,56,57] ?_
     refine W.block ?_
     refine W.bE (fun k σ=>∃(j:Nat),σ=⟨fa [(0,aG j2 l),(1, .int .i64 n),(6, .own 6 v6 0 O.length),(7, .own 7 v7 0 O.length),(8, .int .i64 i),(9, .ptr 9 v9 0 0),(10, .bool (AW (O.take j) q.id)),(56, .int .i64 O.length),(57, .int .i64 j)],rows,clk⟩∧j+k=O.length) O.length ?_ ?_
     ·exact⟨_, .refl,0,rfl,by omega⟩
     rintro m _ ⟨j,rfl,hjm⟩
     refine cB [0,1,6,7,8,9,10,56,57,58] ?_
     refine bF ?_ ?_<;>intro h
     ·have hj:j<O.length:=by simp at h;omega
      have hs:=ab3 (e:=q.id) hj
      refine jV ?_
      refine aA [0,1,6,7,8,9,10,11,56,57] ?_
      cases hb:AW (O.take j) q.id
      ·rw [hb,Bool.false_or]at hs
       refine W.H7 (fun K hK=>?_)
       simp (disch:=omega) [gw,lB,U2,hj,l6]
       refine W.lw [0,1,6,7,8,9,10,56,57] hK ?_;clear hK K;simp
       refine W.cE (fun K hK=>?_);simp (disch:=omega) [gw]
       refine hK _ ⟨m-1,_,aC _ [0,1,6,7,8,9,10,56,57],by omega,j+1,by rw [hs];rfl,by omega⟩
      ·rw [hb,Bool.true_or]at hs
       refine W.H7 (fun K hK=>?_)
       simp (disch:=omega) [gw,lB,U2,hj,l6]
       refine W.lw [0,1,6,7,8,9,10,56,57] hK ?_;clear hK K;simp
       refine W.cE (fun K hK=>?_);simp (disch:=omega) [gw]
       refine hK _ ⟨m-1,_,aC _ [0,1,6,7,8,9,10,56,57],by omega,j+1,by rw [hs];rfl,by omega⟩
     ·have hj:j=O.length:=by simp at h;omega
      subst hj
      rw [ags]
      refine eV ?_
      refine aA [0,1,6,7,8,9,73] ?_
      refine bF ?_ ?_<;>intro h
      ·have hb:AW O q.id=false:=by simpa using h
       rw [if_neg (by rw [hb];decide)]at iP
       refine W.H7 (fun K hK=>?_)
       simp (disch:=omega) [gw,lB,pT,U2,l6,l7,RO]
       refine aB hFi ?_
       simp (disch:=omega) [gw,lB,pT,U2,l6,l7,RO]
       refine hK _ ⟨_,aC _ [0,1,6,7,8],O ++ [q],_,_,_,_,by simp;exact⟨rfl,rfl,rfl⟩,by simp [emap],by simp [emap],by simp;omega,iP.symm⟩
      ·have hb:AW O q.id=true:=by simpa using h
       rw [if_pos hb]at iP
       refine W.skip ?_
       exact⟨_,aC _ [0,1,6,7,8],O,v6,v7,_,_,rfl,lB,pT,hO,iP.symm⟩
    clear lB pT hR rows clk
    rintro _ ⟨O',v6,v7,rows,clk,rfl,lB,pT,hO',hR⟩
    refine W.cE (fun K hK=>?_);simp (disch:=omega) [gw]
    refine hK _ ⟨k-1,_,aC _ [0,1,6,7,8],by omega,O',i+1,v6,v7,_,_,rfl,lB,pT,hO',hR,by omega⟩
   ·simp at h
  ·have hm':¬(O.length:Int)<n:=by omega
   have kN:(i:Int)<l.length:=by omega
   have hf:=ajJ (cu:=cu) (n:=n) (O:=O) (by omega) (l.drop i)
   rw [hf]at hR
   subst hR
   refine W.sr ?_
   simp (disch:=omega) [gw,hi,hm,kN,hm',lB]
   refine bN [0,1,6,7,8,21] ?_
   refine bF ?_ ?_<;>intro h
   ·simp at h
   ·refine eV ?_
    refine W.freeze 6 (by simp [lB]) (fun K hK=>?_)
    simp [lB]
    refine hK _ ?_;clear hK K
    refine W.freeze 7 (by simp [pT]) (fun K hK=>?_)
    simp [pT]
    refine hK _ ?_;clear hK K
    refine aA [4,5] ?_
    exact b7
 ·have kN:¬(i:Int)<l.length:=by omega
  have hd:l.drop i = []:=List.drop_eq_nil_of_le (by omega)
  rw [hd]at hR
  change O=R at hR
  subst hR
  refine W.sr ?_
  simp (disch:=omega) [gw,hi,kN,lB]
  refine bN [0,1,6,7,8,21] ?_
  refine bF ?_ ?_<;>intro h
  ·simp at h
  ·refine eV ?_
   refine W.freeze 6 (by simp [lB]) (fun K hK=>?_)
   simp [lB]
   refine hK _ ?_;clear hK K
   refine W.freeze 7 (by simp [pT]) (fun K hK=>?_)
   simp [pT]
   refine hK _ ?_;clear hK K
   refine aA [4,5] ?_
   exact b7
end Go.Proofs.YtelhfbikiccfkaaGreat
namespace Go.Proofs.YtelhfbikiccfkaaGreat
open Go Pm
open ZX hiding N W
theorem agt{l:List PT}{cl:List Int}{n d k:Int}{own:Bool}{O:List PT}(hP:aD env.P 42 [aG j2 l, .int .i64 2] (.fE [aG j2 O,aG y8 O]))(hO:O.length<2) :
  aD env.P 7 [aG j2 l, .int .i64 n, .int .i64 d,aG aH cl, .int .i64 k, .bool own] (.bool true):=by
 have hw:=BR
 refine b6 [(0,aG j2 l),(1, .int .i64 n),(2, .int .i64 d),(3,aG aH cl),(4, .int .i64 k),(5, .bool own)] Tryz.func7 ?_
 refine aA [0,1,2,3,4,5] ?_
 refine aJ [1,2,3,4,5,13,14] hP ?_
 refine aM [1,2,3,4,5,13,14,27] ?_
 refine bF ?_ ?_<;>intro h
 ·simp at h
  refine aJ [12] hw ?_
  exact b7
 ·simp at h
  omega
set_option maxHeartbeats 4000000 in
theorem RS{l:List PT}{cl X:List Int}{n d k:Int}{own u v:Bool}{a b:PT}{x y:List Int}{cx cy:List ZX}{an ad bn bd an' ad' bn' bd' rn rd:Int}{f:ZX}{L:List (Rat × Rat)}(hP:aD env.P 42 [aG j2 l, .int .i64 2] (.fE [aG j2 [a,b],aG y8 [a,b]]))
  (hk : -9223372036854775808≤k∧k<9223372036854775808) (hL:L.length<1000000)
  (hPk:aD env.P 28 [aG aH cl, .int .i64 k] (.ag (gB x cx an ad bn bd)))
  (hR:aD env.P 44 [.ag a.c.nc.doc, .ag b.c.nc.doc] (PI X))
  (hT:aD env.P 38 [PI X] (aG (qa f (aR f)) L))
  (hS:aD env.P 26 [.int .i64 n, .int .i64 d] (R2 rn rd))
  (iO:own=true→gB y cy an' ad' bn' bd'=if L = []then gB x cx an ad bn bd else qa f (aR f) (nth L 0))
  (apX:own=false→k%2=0→aD env.P 45 [R2 rn rd] (.ag (gB y cy an' ad' bn' bd')))
  (xH:own=false→¬k%2=0→gB y cy an' ad' bn' bd'=gB x cx an ad bn bd)
  (hTA:aD env.P 34 [.ag (gB y cy an' ad' bn' bd')] (.ag (G9 y an' ad' bn' bd')))
  (b1:aD env.P 46 [.ag (j2 a), .ag (j2 b), .ag (G9 y an' ad' bn' bd')] (.bool u)) (b2:aD env.P 47 [.ag (j2 a), .ag (j2 b), .ag (G9 y an' ad' bn' bd')] (.bool v))
  (q1:aD env.P 48 [.ag (y8 a), .ag (y8 b), .ag (gB y cy an' ad' bn' bd')] (.bool u)) (q2:aD env.P 49 [.ag (y8 a), .ag (y8 b), .ag (gB y cy an' ad' bn' bd')] (.bool v))
  (c1:aD env.P 46 [.ag (j2 b), .ag (j2 a), .ag (G9 y an' ad' bn' bd')] (.bool !u)) (c2:aD env.P 47 [.ag (j2 b), .ag (j2 a), .ag (G9 y an' ad' bn' bd')] (.bool !v)) :
  aD env.P 7 [aG j2 l, .int .i64 n, .int .i64 d,aG aH cl, .int .i64 k, .bool own] (.bool true):=by
 have hw:=BR
 have hk2:IntKind.wrap .i64 (k.tmod 2)=k.tmod 2:=by
  have h1:k.tmod 2=0∨k.tmod 2=1∨k.tmod 2 = -1:=by
   rcases Int.le_total 0 k with h | h
   ·rw [Int.tmod_eq_emod_of_nonneg h];omega
   ·have e:k.tmod 2 = -((-k).tmod 2):=by rw [Int.neg_tmod,Int.neg_neg]
    rw [e,Int.tmod_eq_emod_of_nonneg (by omega)];omega
  rcases h1 with h | h | h<;>rw [h]<;>decide
 have hkm:k.tmod 2=0↔k%2=0:=by
  rw [←Int.dvd_iff_tmod_eq_zero,Int.dvd_iff_emod_eq_zero]
 simp only [gB,G9,CV.nP,o7,y9]at hPk hR apX hTA b1 b2 q1 q2 c1 c2
 refine b6 [(0,aG j2 l),(1, .int .i64 n),(2, .int .i64 d),(3,aG aH cl),(4, .int .i64 k),(5, .bool own)] Tryz.func7 ?_
 refine aA [0,1,2,3,4,5] ?_
 refine aJ [1,2,3,4,5,13,14] hP ?_
 refine aM [1,2,3,4,5,13,14,27] ?_
 refine bF ?_ ?_<;>intro h
 ·simp at h
 refine W.skip ?_
 refine aJ [1,2,4,5,13,14,15] hPk ?_
 refine W.gJ (fun σ=>∃(v15 e15:Nat) (rows:Pm.Rows) (clk:Nat),σ=⟨fa [(13,aG j2 [a,b]),(14,aG y8 [a,b]),(15, .ptr 15 v15 0 0)],rows,clk⟩∧rows 15=some ⟨v15,e15,10,[gB y cy an' ad' bn' bd']⟩) ?_ ?_
 ·refine aA [1,2,4,13,14,15,32] ?_
  refine bF ?_ ?_<;>intro h
  ·try simp at h
   have ho:=iO h
   refine iQ ?_
   refine bW hR ?_
   refine bU [13,14,15,16] hT ?_
   refine aA [13,14,15,16,45] ?_
   refine bF ?_ ?_<;>intro h
   ·have hl:0<L.length:=by simpa using h
    rw [if_neg (fun e=>by rw [e]at hl;simp at hl)]at ho
    rw [ho]
    refine W.cE (fun K hK=>?_);simp (disch:=omega) [gw,hl]
    exact hK _ ⟨_,aC _ [13,14,15],_,_,_,_,rfl,by simp;rfl⟩
   ·have hl:L = []:=by simpa using h
    rw [if_pos hl]at ho
    rw [ho]
    refine W.skip ?_
    exact⟨_,aC _ [13,14,15],_,_,_,_,rfl,by simp;rfl⟩
  ·try simp at h
   refine aA [1,2,13,14,15,51] ?_
   refine W.cond ⟨_,rfl,fun h'=>?_,fun h'=>?_⟩
   ·have h2:k%2=0:=hkm.1 (by simpa using h')
    have hr:=apX h h2
    refine W.cE (fun K hK=>?_)
    simp (disch:=omega) [gw]
    refine bW hS ?_
    refine bW hr ?_
    exact hK _ ⟨_,aC _ [13,14,15],_,_,_,_,rfl,by simp;rfl⟩
   ·have h2:¬k%2=0:=fun e=>absurd (hkm.2 e) (by simpa using h')
    rw [xH h h2]
    refine W.skip ?_
    exact⟨_,aC _ [13,14,15],_,_,_,_,rfl,by simp;rfl⟩
 rintro _ ⟨v15,e15,rows,clk,rfl,ab4⟩
 clear iO apX xH hPk hR hT hS
 simp only [gB]at ab4
 refine W.sr ?_
 simp (disch:=omega) [gw,ab4]
 refine aB hTA ?_
 simp (disch:=omega) [gw,ab4]
 refine bN [13,14,15,17] ?_
 refine iQ ?_
 refine bW b1 ?_
 refine bU [13,14,15,17,18,19] b2 ?_
 refine W.sd ?_
 simp (disch:=omega) [gw,ab4]
 refine aB q1 ?_
 simp (disch:=omega) [gw,ab4]
 refine aB q2 ?_
 simp (disch:=omega) [gw,ab4]
 refine bW c1 ?_
 refine bW c2 ?_
 refine bU [12] hw ?_
 exact b7
def XX(a b:PT):ZX:=⟨dJ (aN b.c.nc.x a.c.nc.d) (aN a.c.nc.x b.c.nc.d),Cn.dJ _ _⟩
def YY'(a b:PT):ZX:=⟨dJ (aN b.c.nc.y a.c.nc.d) (aN a.c.nc.y b.c.nc.d),Cn.dJ _ _⟩
theorem agv(t:Int)(x:ZX):V t (-x).l = - V t x.l:=by
 show V t (fU x.l)=_
 rw [wF]
theorem ajL(a b:PT):XX b a = - XX a b:=ZX.ext fun t=>by
 rw [agv]
 show V t (dJ _ _) = - V t (dJ _ _)
 simp only [iH,cR];omega
theorem ajM(a b:PT):YY' b a = - YY' a b:=ZX.ext fun t=>by
 rw [agv]
 show V t (dJ _ _) = - V t (dJ _ _)
 simp only [iH,cR];omega
theorem Z2{x y:List Int}{d e:Int}(hx:Bd 2 32 3 x)(hy:Bd 2 32 3 y)(hd:sz 2 d≤32)(he:sz 2 e≤32):Bd 2 65 3 (dJ (aN x e) (aN y d)):=by
 rw [←YC]
 exact Bd.fL (by decide) (Bd.aN (by decide) hx he) (Bd.fU (Bd.aN (by decide) hy hd))
theorem zA(x:List Int)(d:Int):bH x [d]=aN x d:=Cn.ext (Cn.bH _ _) (Cn.aN _ _) fun t=>by
 rw [dP,cR]
 simp [V]
theorem fst_eq{X Y:List Int}{vx vy ia ib:Int}(hx:X = []↔vx=0)(hy:Y = []↔vy=0):JP X Y vx vy ia ib=RN vx vy ia ib:=by
 unfold JP RN
 simp only [hx,hy]
theorem RU{vx vy ia ib:Int}(h:ia≠ib):RN (-vx) (-vy) ib ia = !RN vx vy ia ib:=by
 unfold RN
 simp only [Int.neg_eq_zero]
 split
 ·split
  ·rw [←decide_not];congr 1;simp only [eq_iff_iff];omega
  ·rw [←decide_not];congr 1;simp only [eq_iff_iff];omega
 ·rw [←decide_not];congr 1;simp only [eq_iff_iff];omega
section
variable {s n u:Nat} {f:ZX} {p:Rat × Rat} (A:AN s n u f p)
include A
theorem AN.af0{q:ZX}(hN:ZX.N q≤20):q.l = []↔MU (bK f p) q=0:=by
 constructor
 ·intro h
  have h0:q=0:=ZX.ext fun t=>by rw [h];rfl
  rw [h0]
  exact mS A.sg0 _
 ·intro h
  by_cases h0:q=0
  ·rw [h0];rfl
  ·exact absurd h (A.af h0 hN).1
theorem AN.amc{q:ZX}(hN:ZX.N q≤20)(hN':ZX.N (-q)≤20):MU (bK f p) (-q) = - MU (bK f p) q:=by
 by_cases h0:q=0
 ·subst h0
  have e:(-0:ZX)=0:=by grind
  have z:MU (bK f p) 0=0:=mS A.sg0 _
  rw [e,z];rfl
 ·have h1 : -q≠0:=fun e=>h0 (by grind)
  exact(A.af h1 hN').uniq ((A.af h0 hN).neg)
end
theorem WN:aD env.P 38 [PI []] (.sl []):=by
 refine b6 [(0,PI [])] Tryz.func38 ?_
 refine aA [0] ?_
 refine aM [0,5] ?_
 refine bF ?_ ?_<;>intro h
 ·refine aA [2] ?_
  refine W.KS 2 (.sl []) (by simp) rfl (fun K hK=>?_)
  refine W.lw [2] hK ?_;clear hK K;simp
  exact b7
 ·simp at h
section
variable {a b:PT}
theorem bX(ka:a.c.Small 3 1)(kb:b.c.Small 3 1):BZ 65 3 (XX a b):=Z2 (CM kb).x2 (CM ka).x2 (CM kb).d2 (CM ka).d2
theorem bY(ka:a.c.Small 3 1)(kb:b.c.Small 3 1):BZ 65 3 (YY' a b):=Z2 (CM kb).y2 (CM ka).y2 (CM kb).d2 (CM ka).d2
theorem rX(ka:a.c.Small 3 1)(kb:b.c.Small 3 1):aD env.P 127 [.ag a.c.cells, .ag b.c.cells] (Po (XX a b).l):=UW ka.ok kb.ok (by decide)
theorem rY(ka:a.c.Small 3 1)(kb:b.c.Small 3 1):aD env.P 128 [.ag a.c.cells, .ag b.c.cells] (Po (YY' a b).l):=UX ka.ok kb.ok (by decide)
theorem qX(ka:a.c.Small 3 1)(kb:b.c.Small 3 1):aD env.P 44 [.ag a.c.nc.doc, .ag b.c.nc.doc] (PI (XX a b).l):=by
 have h:=P5 a.c.P4 b.c.P4 (CM ka) (CM kb)
 rw [zA,zA]at h
 exact h
theorem qY(ka:a.c.Small 3 1)(kb:b.c.Small 3 1):aD env.P 129 [.ag a.c.nc.doc, .ag b.c.nc.doc] (PI (YY' a b).l):=by
 have h:=P6 a.c.P4 b.c.P4 (CM ka) (CM kb)
 rw [zA,zA]at h
 exact h
variable {s n u:Nat} {f:ZX} {p:Rat × Rat} (A:AN s n u f p) (z:SzC s n 65 3)
include A z
theorem GF(ka:a.c.Small 3 1)(kb:b.c.Small 3 1):aD env.P 46 [.ag (j2 a), .ag (j2 b),GA f p] (.bool (RN (MU (bK f p) (XX a b)) (MU (bK f p) (YY' a b)) a.id b.id)):=by
 have x:=bX ka kb
 have y:=bY ka kb
 have h1:=A.at z x
 have h2:=A.at z y
 have hx:=Nat.lt_of_le_of_lt x.N (show 3<1000000 by decide)
 have hy:=Nat.lt_of_le_of_lt y.N (show 3<1000000 by decide)
 have F:=GD (a:=a) (b:=b) hx hy (fun _=>h1) (fun _=>h2)
 rw [fst_eq (A.af0 (Nat.le_trans x.N (by decide))) (A.af0 (Nat.le_trans y.N (by decide)))]at F
 exact RM (rX ka kb) (rY ka kb) F
theorem JQ(ka:a.c.Small 3 1)(kb:b.c.Small 3 1):aD env.P 47 [.ag (j2 a), .ag (j2 b),GA f p] (.bool (RN (MU (bK f p) (YY' b a)) (MU (bK f p) (XX b a)) a.id b.id)):=by
 have x:=bX kb ka
 have y:=bY kb ka
 have h1:=A.at z x
 have h2:=A.at z y
 have hx:=Nat.lt_of_le_of_lt x.N (show 3<1000000 by decide)
 have hy:=Nat.lt_of_le_of_lt y.N (show 3<1000000 by decide)
 have F:=GD (a:=a) (b:=b) hy hx (fun _=>h2) (fun _=>h1)
 rw [fst_eq (A.af0 (Nat.le_trans y.N (by decide))) (A.af0 (Nat.le_trans x.N (by decide)))]at F
 exact WL (rX kb ka) (rY kb ka) F
variable (hx:Ex f p)
include hx
theorem RV(ka:a.c.Small 3 1)(kb:b.c.Small 3 1):aD env.P 48 [.ag (y8 a), .ag (y8 b),QA f (aR f) p] (.bool (RN (MU (bK f p) (XX a b)) (MU (bK f p) (YY' a b)) a.id b.id)):=
 HJ (qX ka kb) (qY ka kb) (A.MV z (bX ka kb) hx) (A.MV z (bY ka kb) hx)
theorem WO(ka:a.c.Small 3 1)(kb:b.c.Small 3 1):aD env.P 49 [.ag (y8 a), .ag (y8 b),QA f (aR f) p] (.bool (RN (MU (bK f p) (YY' b a)) (MU (bK f p) (XX b a)) a.id b.id)):=
 MW (qX kb ka) (qY kb ka) (A.MV z (bX kb ka) hx) (A.MV z (bY kb ka) hx)
end
section
variable {s n u:Nat} {f:ZX} {p:Rat × Rat} (A:AN s n u f p) {a b:PT} (ka:a.c.Small 3 1) (kb:b.c.Small 3 1)
include A ka kb
theorem AN.afX:MU (bK f p) (XX b a) = - MU (bK f p) (XX a b):=by
 have h:=(bX kb ka).N
 rw [ajL]at h ⊢
 exact A.amc (Nat.le_trans (bX ka kb).N (by decide)) (Nat.le_trans h (by decide))
theorem AN.afY:MU (bK f p) (YY' b a) = - MU (bK f p) (YY' a b):=by
 have h:=(bY kb ka).N
 rw [ajM]at h ⊢
 exact A.amc (Nat.le_trans (bY ka kb).N (by decide)) (Nat.le_trans h (by decide))
end
theorem apY:SzC 59 5 65 3:=⟨by decide,by decide,by decide,by decide,by decide,by decide,by decide,by decide⟩
theorem awl:SzC (qb 65 3) 3 65 3:=⟨by decide,by decide,by decide,by decide,by decide,by decide,by decide,by decide⟩
end Go.Proofs.YtelhfbikiccfkaaGreat
