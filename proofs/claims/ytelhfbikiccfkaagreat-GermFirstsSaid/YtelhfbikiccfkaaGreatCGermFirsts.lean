/- For every input the law GermFirsts of chapter 11 returns true, and each argument reads afterwards as it read before. No conditions. -/
import Derived.Test.YtelhfbikiccfkaaGreatRows
import Derived.Test.YtelhfbikiccfkaaGreatCau
set_option linter.unusedSimpArgs false
set_option linter.unusedVariables false
namespace Go.Proofs.YtelhfbikiccfkaaGreat
open Go Pm
open ZX hiding N W
set_option maxHeartbeats 4000000 in
theorem AX{p q al bl x0:List Int}{n d tn td t1 t2 t3 t4:Int}{C0:List ZX}{f g:ZX}{L M:List (Rat × Rat)}{e0:ZX × Rat × Rat}(P:(ZX × Rat × Rat)→Nat→Prop)(hM1:aD env.P 29 [aI aG p, .int .i64 4] (PI al))(hM2:aD env.P 29 [aI aG q, .int .i64 4] (PI bl))(hT1:aD env.P 33 [PI al] (Po al))(hT2:aD env.P 33 [PI bl] (Po bl))(hS:aD env.P 26 [.int .i64 n, .int .i64 d] (R2 tn td))
  (hR:aD env.P 45 [R2 tn td] (.ag (gS x0 C0 t1 t2 t3 t4))) (hTA:aD env.P 34 [.ag (gS x0 C0 t1 t2 t3 t4)] (.ag (gg e0))) (hFA:aD env.P 21 [.ag (gg e0)] (QB e0)) (h0:P e0 0) (k1:aD env.P 37 [Po al] (aI (ga f) L)) (k2:aD env.P 37 [Po bl] (aI (ga g) M)) (hl:L.length≤21) (hm:M.length≤21) (auM:∀e n,P e n→n≤L.length+M.length)
  (ae7:∀e n,P e n → ∃(ok is any:Bool) (xb xc xd:List Int) (b1 b2 b3 b4 c1 c2 c3 c4 d1 d2 d3 d4:Int),aD env.P 53 [.ag (gg e), .sl [[Po al],[Po bl]]] (.eB [.ag (G9 xd d1 d2 d3 d4), .bool any])∧aD env.P 51 [Po al, .ag (gg e)] (.eB [.ag (G9 xb b1 b2 b3 b4), .bool ok])∧aD env.P 51 [Po bl, .ag (gg e)] (.eB [.ag (G9 xc c1 c2 c3 c4), .bool is])∧any=(ok || is) ∧
   (any=true → ∃e',G9 xd d1 d2 d3 d4=gg e'∧aD env.P 21 [.ag (gg e')] (QB e')∧(∃z:Int,aD env.P 54 [QB e',QB e] (.int .i64 z)∧0<z)∧(ok=true → ∃(xu:List Int) (cu:List ZX) (u1 u2 u3 u4 z:Int),aD env.P 21 [.ag (G9 xb b1 b2 b3 b4)] (.ag (gS xu cu u1 u2 u3 u4))∧aD env.P 54 [QB e', .ag (gS xu cu u1 u2 u3 u4)] (.int .i64 z)∧z≤0) ∧
    (is=true → ∃(xu:List Int) (cu:List ZX) (u1 u2 u3 u4 z:Int),aD env.P 21 [.ag (G9 xc c1 c2 c3 c4)] (.ag (gS xu cu u1 u2 u3 u4))∧aD env.P 54 [QB e', .ag (gS xu cu u1 u2 u3 u4)] (.int .i64 z)∧z≤0)∧P e' (n+1))) :
  aD env.P 10 [aI aG p,aI aG q, .int .i64 n, .int .i64 d] (.bool true):=by
 have aol:=z9
 simp only [QB,QA,qa,gS,G9,gg,List.cons_append,List.nil_append]at hR hTA hFA ae7
 refine bY [(0,aI aG p),(1,aI aG q),(2, .int .i64 n),(3, .int .i64 d)] Tryz.func10 ?_
 refine aA [0,1,2,3] ?_
 refine iB ?_
 refine cB hM1 ?_
 refine cB hT1 ?_
 refine cB hM2 ?_
 refine bS [2,3,9,10] hT2 ?_
 refine iB ?_
 refine cB hS ?_
 refine cB hR ?_
 refine bS [9,10,11] hTA ?_
 refine aA [9,10,11,12] ?_
 refine aJ [9,10,11,12,13] hFA ?_
 refine W.dK (fun σ=>∃(k:Nat) (rows:Pm.Rows) (clk:Nat),σ=⟨fa [(9,Po al),(10,Po bl),(12, .int .i64 k)],rows,clk⟩∧k≤L.length+M.length) ?_ ?_
 ·refine W.bG (fun m σ=>∃(k v11 v13:Nat) (e:ZX × Rat × Rat) (rows:Pm.Rows) (clk:Nat),σ=⟨fa [(9,Po al),(10,Po bl),(11, .ptr 11 v11 0 0),(12, .int .i64 k),(13, .ptr 13 v13 0 0)],rows,clk⟩∧rows 11=some ⟨v11,54,9,[gg e]⟩∧rows 13=some ⟨v13,49,10,[qa e.1 (aT e.1) (ex e.1 e.2)]⟩∧P e k∧k+m=12) 12 ?_ ?_
  ·exact⟨_,aC _ [9,10,11,12,13],0,_,_,e0,_,_,rfl,by simp,by simp,h0,rfl⟩
  rintro m _ ⟨k,v11,v13,e,rows,clk,rfl,mU,iQ,hPe,hkm⟩
  simp only [gg,qa,List.cons_append,List.nil_append]at mU iQ
  have hfk:=auM e k hPe
  refine aL [9,10,11,12,13,35] ?_
  refine bC ?_ ?_<;>intro h
  ·have aFE:k<12:=by simp at h;omega
   obtain⟨ok,is,any,xb,xc,xd,b1,b2,b3,b4,c1,c2,c3,c4,d1,d2,d3,d4,F,N1,N2,azY,hh⟩:=ae7 e k hPe
   clear ae7 auM
   refine W.skip ?_
   refine W.block ?_
   refine W.sr ?_
   simp (disch:=omega) [gw,mU]
   refine bS [9,10,11,12,13,14,15] F ?_
   refine W.sr ?_
   simp (disch:=omega) [gw,mU]
   refine bS [9,10,11,12,13,14,15,16,17] N1 ?_
   refine W.sr ?_
   simp (disch:=omega) [gw,mU]
   refine bS [9,10,11,12,13,14,15,16,17,18,19] N2 ?_
   refine W.seq ?_
   refine W.fG (fun σ=>∃(v14 v16 v18:Nat) (rows:Pm.Rows) (clk:Nat),σ=⟨fa [(9,Po al),(10,Po bl),(11, .ptr 11 v11 0 0),(12, .int .i64 k),(13, .ptr 13 v13 0 0),(14, .ptr 14 v14 0 0),(15, .bool any),(16, .ptr 16 v16 0 0),(17, .bool ok),(18, .ptr 18 v18 0 0),(19, .bool is),(61, .bool false)],rows,clk⟩∧rows 11=some ⟨v11,54,9,[gg e]⟩∧rows 13=some ⟨v13,49,10,[qa e.1 (aT e.1) (ex e.1 e.2)]⟩∧rows 14=some ⟨v14,54,9,[G9 xd d1 d2 d3 d4]⟩∧rows 16=some ⟨v16,54,9,[G9 xb b1 b2 b3 b4]⟩∧rows 18=some ⟨v18,54,9,[G9 xc c1 c2 c3 c4]⟩) (fun K hK=>?_) ?_
   ·subst azY
    cases ok with
    | false =>
     cases is with
     | false =>
      simp (disch:=omega) [gw]
      exact hK _ _ (aC _ [9,10,11,12,13,14,15,16,17,18,19,61]) ⟨_,_,_,_,_,rfl,by simp [mU],by simp [iQ],by simp,by simp,by simp⟩
     | true =>
      simp (disch:=omega) [gw]
      exact hK _ _ (aC _ [9,10,11,12,13,14,15,16,17,18,19,61]) ⟨_,_,_,_,_,rfl,by simp [mU],by simp [iQ],by simp,by simp,by simp⟩
    | true =>
     simp (disch:=omega) [gw]
     exact hK _ _ (aC _ [9,10,11,12,13,14,15,16,17,18,19,61]) ⟨_,_,_,_,_,rfl,by simp [mU],by simp [iQ],by simp,by simp,by simp⟩
   clear mU iQ F N1 N2 rows clk
   rintro _ ⟨v14,v16,v18,rows,clk,rfl,mU,iQ,vF,FN,OV⟩
   refine bC ?_ ?_<;>intro h
   ·simp at h
   refine W.skip ?_
   refine W.seq ?_
   cases any with
   | false =>
    refine aA [9,10,11,12,13,14,16,17,18,19,63] ?_
    refine bC ?_ ?_<;>intro h
    ·refine eV ?_
     exact⟨_,aC _ [9,10,12],_,_,_,rfl,hfk⟩
    ·simp at h
   | true =>
    obtain⟨e',mO,FA,⟨z,hz,mJ⟩,h1,h2,az0⟩:=hh rfl
    clear hh
    simp only [gg,qa,G9,List.cons_append,List.nil_append]at mU iQ vF FN OV mO
    rw [mO]at vF
    have hz1:¬z≤0:=by omega
    refine aA [9,10,11,12,13,14,16,17,18,19,63] ?_
    refine bC ?_ ?_<;>intro h
    ·simp at h
    refine W.skip ?_
    refine W.sr ?_
    simp (disch:=omega) [gw,vF]
    refine bS [9,10,11,12,13,14,16,17,18,19,20] FA ?_
    refine W.seq ?_
    refine W.arS (fun σ=>∃(v20:Nat) (rows:Pm.Rows) (clk:Nat),σ=⟨fa [(9,Po al),(10,Po bl),(11, .ptr 11 v11 0 0),(12, .int .i64 k),(13, .ptr 13 v13 0 0),(14, .ptr 14 v14 0 0),(20, .ptr 20 v20 0 0),(89, .bool false)],rows,clk⟩∧rows 11=some ⟨v11,54,9,[gg e]⟩∧rows 13=some ⟨v13,49,10,[qa e.1 (aT e.1) (ex e.1 e.2)]⟩∧rows 14=some ⟨v14,54,9,[gg e']⟩∧rows 20=some ⟨v20,49,10,[qa e'.1 (aT e'.1) (ex e'.1 e'.2)]⟩) (fun K hK=>?_) ?_
    ·cases ok with
     | false =>
      cases is with
      | false =>
       simp (disch:=omega) [gw,iQ]
       refine aB hz ?_
       simp (disch:=omega) [gw,hz1]
       exact hK _ _ (aC _ [9,10,11,12,13,14,20,89]) ⟨_,_,_,rfl,by simp [mU],by simp [iQ],by simp [vF],by simp⟩
      | true =>
       obtain⟨xu,cu,u1,u2,u3,u4,y,f1,f2,f3⟩:=h2 rfl
       have f3':¬0<y:=by omega
       simp (disch:=omega) [gw,iQ]
       refine aB hz ?_
       simp (disch:=omega) [gw,hz1,OV]
       refine cB f1 ?_
       refine aB f2 ?_
       simp (disch:=omega) [gw,f3']
       exact hK _ _ (aC _ [9,10,11,12,13,14,20,89]) ⟨_,_,_,rfl,by simp [mU],by simp [iQ],by simp [vF],by simp⟩
     | true =>
      obtain⟨xu,cu,u1,u2,u3,u4,y,f1,f2,f3⟩:=h1 rfl
      have f3':¬0<y:=by omega
      cases is with
      | false =>
       simp (disch:=omega) [gw,iQ]
       refine aB hz ?_
       simp (disch:=omega) [gw,hz1,FN]
       refine cB f1 ?_
       refine aB f2 ?_
       simp (disch:=omega) [gw,f3']
       exact hK _ _ (aC _ [9,10,11,12,13,14,20,89]) ⟨_,_,_,rfl,by simp [mU],by simp [iQ],by simp [vF],by simp⟩
      | true =>
       obtain⟨xu2,cu2,w1,w2,w3,w4,y2,i1,i2,i3⟩:=h2 rfl
       have i3':¬0<y2:=by omega
       simp (disch:=omega) [gw,iQ]
       refine aB hz ?_
       simp (disch:=omega) [gw,hz1,FN]
       refine cB f1 ?_
       refine aB f2 ?_
       simp (disch:=omega) [gw,f3',OV]
       refine cB i1 ?_
       refine aB i2 ?_
       simp (disch:=omega) [gw,i3']
       exact hK _ _ (aC _ [9,10,11,12,13,14,20,89]) ⟨_,_,_,rfl,by simp [mU],by simp [iQ],by simp [vF],by simp⟩
    clear mU iQ vF FN OV h1 h2 hz FA rows clk
    rintro _ ⟨v20,rows,clk,rfl,mU,iQ,vF,aaH⟩
    simp only [gg,qa,List.cons_append,List.nil_append]at mU iQ vF aaH
    refine bC ?_ ?_<;>intro h
    ·simp at h
    refine W.skip ?_
    refine W.sd ?_
    simp (disch:=omega) [gw,mU,iQ,vF,aaH]
    (try (refine a9 (of_decide_eq_true (by kernel_rfl)) ?_));(try simp (maxSteps:=4000000) (disch:=omega) [gw,mU,iQ,vF,aaH]);(repeat rw [if_pos (by kernel_rfl)]);(try simp (maxSteps:=4000000) (disch:=omega) [gw,mU,iQ,vF,aaH])
    (try (refine a9 (of_decide_eq_true (by kernel_rfl)) ?_));(try simp (maxSteps:=4000000) (disch:=omega) [gw,mU,iQ,vF,aaH]);(repeat rw [if_pos (by kernel_rfl)]);(try simp (maxSteps:=4000000) (disch:=omega) [gw,mU,iQ,vF,aaH])
    refine bL [9,10,11,12,13] ?_
    have hw:IntKind.wrap .i64 ((k:Int)+1)=(k:Int)+1:=wrap_i64 (by omega) (by omega)
    refine W.cC (fun K hK=>?_);simp (disch:=omega) [gw]
    refine hK _ ⟨m-1,_,aC _ [9,10,11,12,13],by omega,k+1,_,_,e',_,_,rfl,by simp,by simp,az0,by omega⟩
  ·refine eV ?_
   exact⟨_,aC _ [9,10,12],_,_,_,rfl,hfk⟩
 rintro _ ⟨k,rows,clk,rfl,hk⟩
 have vH:(k:Int)≤(L.length:Int)+M.length:=by omega
 refine iB ?_
 refine cB k1 ?_
 refine aB k2 ?_
 simp (disch:=omega) [gw,vH]
 refine bS [8] aol ?_
 exact bV
section
variable {U V:Rat→Prop} (hU:∀s t,U s→s≤t→U t) (hV:∀s t,V s→s≤t→V t)
include hU hV
theorem K7:0<cu U V ↔ ∃t,V t∧¬U t:=by
 unfold cu
 split
 ·rename_i h
  obtain⟨t1,h1,h2⟩:=h
  refine⟨fun h=>absurd h (by decide),fun⟨t2,h3,h4⟩=>?_⟩
  by_cases h5:t1≤t2
  ·exact absurd (hU _ _ h1 h5) h4
  ·exact absurd (hV _ _ h3 (by grind)) h2
 ·split
  ·rename_i h;exact⟨fun _=>h,fun _=>by decide⟩
  ·rename_i h;exact⟨fun h1=>absurd h1 (by decide),fun h1=>absurd h1 h⟩
omit hU hV in
theorem aot:cu U V<0 ↔ ∃t,U t∧¬V t:=by
 unfold cu
 split
 ·rename_i h;exact⟨fun _=>h,fun _=>by decide⟩
 ·rename_i h
  refine⟨fun h1=>?_,fun h1=>absurd h1 h⟩
  split at h1<;>exact absurd h1 (by decide)
theorem aiA:cu U V<0↔0<cu V U:=by rw [aot,K7 hV hU]
end
structure Idx(f:ZX)(L:List (Rat × Rat))(U:Rat→Prop)(k:Nat):Prop where
 le:k≤L.length
 lt:∀i,i<k→¬0<cu (aY f (nth L i)) U
 gt:k<L.length→0<cu (aY f (nth L k)) U
theorem Idx.mono{f:ZX}{L:List (Rat × Rat)}{U U':Rat→Prop}{k k':Nat}(hf:∀i,i<L.length → ∀s t,aY f (nth L i) s→s≤t→aY f (nth L i) t)(hU:∀s t,U s→s≤t→U t)(hU':∀s t,U' s→s≤t→U' t)(h:Idx f L U k)(h':Idx f L U' k')(hs:∀t,U' t→U t):k≤k':=Nat.not_lt.1 fun hk=>by
 have hl:k'<L.length:=by have:=h.le;omega
 obtain⟨t,h1,h2⟩:=(K7 (hf _ hl) hU').1 (h'.gt hl)
 exact h.lt k' hk ((K7 (hf _ hl) hU).2 ⟨t,hs t h1,h2⟩)
theorem EG(m p:List Int)(n d:Int)(hmb:∀x∈m, -9223372036854775808≤x∧x<9223372036854775808)(hml:m.length<9223372036854775808)(hpb:∀x∈p, -9223372036854775808≤x∧x<9223372036854775808)(ET:p.length<9223372036854775808)(hn : -9223372036854775808≤n∧n<9223372036854775808)(hd : -9223372036854775808≤d∧d<9223372036854775808) :
  aD env.P 10 [aI aG m,aI aG p, .int .i64 n, .int .i64 d] (.bool true):=by
 have mk:∀r:List Int,made r 4≠0∧nX 18 6 (made r 4):=fun r=>by
  obtain⟨h1,h2⟩:=W4 r 4
  have e1:3*9^4=19683:=by decide
  exact⟨(BH r 4).1,⟨(BZ.O4 (s:=18) (n:=5) (by show _<262144;omega) h2).mono (Nat.le_refl _) (by decide),by decide,by decide,by decide⟩⟩
 have hM1:=w8 m hml hmb 4 (by decide)
 have hM2:=w8 p ET hpb 4 (by decide)
 obtain⟨a0,La⟩:=mk m
 obtain⟨b0,Lb⟩:=mk p
 generalize made m 4=a at *
 generalize made p 4=b at *
 have hS:=HK n d hn hd
 have q5:=ad8 n d
 have sb:=TP n d
 generalize sml n d=t at *
 rw [cW]at hS
 have It:=PN (s:=qb 18 6) (n:=6) sb (by decide) (by decide) (by decide) (Nat.le_trans La.hs (Nat.pow_le_pow_right (by decide) (by decide))) (by decide) (by decide)
 have hR:=uD (n:=t.num) (d:=t.den) (by omega) (by omega) (by have:=t.den_pos;omega) (sO t)
 rw [It.sq]at hR
 have OU:aD env.P 45 [R2 t.num t.den] (.ag (gS (mH t).l (aT (mH t)) t.num t.den t.num t.den)):=by rw [sO];exact hR
 obtain⟨At,Et⟩:=akL (u:=uu (qb 18 6)) It (by decide) (by rw [yO];decide) (AA t) (q5.mono (by decide)) (by decide)
 have gen:∀ {x:ZX},x≠0→nX 18 6 x→kR (qb 18 6) 6 (oz (nf x))∧aD env.P 37 [Po x.l] (aI (ga (oz (nf x))) (lS (qb 18 6) 6 (oz (nf x))))∧aD env.P 38 [PI x.l] (aI (qa (oz (nf x)) (aT (oz (nf x)))) ((lS (qb 18 6) 6 (oz (nf x))).map (ex (oz (nf x))))):=fun {x} x0 Lx=>by
  have I:=EC Lx x0 (by decide) (by decide) (by decide)
  exact⟨I,xF Lx x0 (by decide) (by decide) (by decide),EB (m:=[]) (sC x0) (HE Lx (by decide) x0) (vC I.KZ I.D8 I I.s1)⟩
 obtain⟨If,hTa,hQa⟩:=gen a0 La
 obtain⟨Ig,hTb,hQb⟩:=gen b0 Lb
 have nf8:ZX.N (oz (nf a))≤8:=Nat.le_trans If.ch.bz.N (by decide)
 have ng8:ZX.N (oz (nf b))≤8:=Nat.le_trans Ig.ch.bz.N (by decide)
 have lf:=tL If
 have lg:=tL Ig
 have nb1:=fun {h q} (B:AN (qb 18 6) 6 (uu (qb 18 6)) h q)=>tM If (by decide) nf8 hTa hQa B (by decide) cp2
 have nb2:=fun {h q} (B:AN (qb 18 6) 6 (uu (qb 18 6)) h q)=>tM Ig (by decide) ng8 hTb hQb B (by decide) cp2
 have r1:=fun {p} hp=>(⟨(kT (p:=p) If (by decide) nf8 hp).1,(kT (p:=p) If (by decide) nf8 hp).2⟩:_∧_)
 have r2:=fun {p} hp=>(⟨(kT (p:=p) Ig (by decide) ng8 hp).1,(kT (p:=p) Ig (by decide) ng8 hp).2⟩:_∧_)
 generalize oz (nf a)=f at *
 generalize oz (nf b)=g at *
 generalize hLe:lS (qb 18 6) 6 f=L at *
 generalize hMe:lS (qb 18 6) 6 g=M at *
 clear hQa hQb gen mk
 have upF:∀i,i<L.length → ∀s t,aY f (nth L i) s→s≤t→aY f (nth L i) t:=fun i hi s t=>(r1 (bP hi)).1.A.up
 have upG:∀i,i<M.length → ∀s t,aY g (nth M i) s→s≤t→aY g (nth M i) t:=fun i hi s t=>(r2 (bP hi)).1.A.up
 refine AX (e0:=(mH t,(t,t))) (fun e n=>AN (qb 18 6) 6 (uu (qb 18 6)) e.1 e.2∧AN (qb 18 6) 6 (uu (qb 18 6)) e.1 (ex e.1 e.2) ∧ ∀k1 k2,Idx f L (aY e.1 e.2) k1→Idx g M (aY e.1 e.2) k2→n≤k1+k2) hM1 hM2 (tH La.bz (by decide) (by decide)) (tH Lb.bz (by decide) (by decide)) hS OU At.toA (It.aey At.q1 At.q2 (by decide)) ⟨At,?_,fun _ _ _ _=>Nat.zero_le _⟩ hTa hTb lf lg (fun e n hP=>?_) (fun e n hP=>?_)
 ·have:ex (mH t) (t,t)=(t,t):=by unfold ex;split<;>rfl
  rw [this];exact At
 ·obtain⟨k1,h1,h2,h3,_⟩:=nb1 hP.1
  obtain⟨k2,h4,h5,h6,_⟩:=nb2 hP.1
  have:=hP.2.2 k1 k2 ⟨h1,h2,h3⟩ ⟨h4,h5,h6⟩
  omega
 ·obtain⟨A,Ax,hk⟩:=hP
  obtain⟨k1,h1,h2,h3,g1,_⟩:=nb1 A
  obtain⟨k2,h4,h5,h6,g2,_⟩:=nb2 A
  have x1:Idx f L (aY e.1 e.2) k1:=⟨h1,h2,h3⟩
  have x2:Idx g M (aY e.1 e.2) k2:=⟨h4,h5,h6⟩
  have hUe:∀s t,aY e.1 e.2 s→s≤t→aY e.1 e.2 t:=fun s t=>A.A.up
  have exc:∀ {y:ZX × Rat × Rat},AN (qb 18 6) 6 (uu (qb 18 6)) y.1 y.2 → ∀t,aY y.1 (ex y.1 y.2) t↔aY y.1 y.2 t:=fun Y=>(qO Y.A).2
  obtain⟨o1,ho1⟩:∃o1,nxt f L k1=o1:=⟨_,rfl⟩
  obtain⟨o2,ho2⟩:∃o2,nxt g M k2=o2:=⟨_,rfl⟩
  rw [ho1]at g1
  rw [ho2]at g2
  have s1:∀ {y},o1=some y→y=(f,nth L k1)∧k1<L.length:=fun {y} hy=>by
   rw [←ho1]at hy;unfold nxt at hy;split at hy
   ·injection hy with hy;exact⟨hy.symm,by assumption⟩
   ·cases hy
  have s2:∀ {y},o2=some y→y=(g,nth M k2)∧k2<M.length:=fun {y} hy=>by
   rw [←ho2]at hy;unfold nxt at hy;split at hy
   ·injection hy with hy;exact⟨hy.symm,by assumption⟩
   ·cases hy
  have an1:∀ {y},o1=some y→AN (qb 18 6) 6 (uu (qb 18 6)) y.1 y.2∧AN (qb 18 6) 6 (uu (qb 18 6)) y.1 (ex y.1 y.2)∧0<cu (aY y.1 y.2) (aY e.1 e.2):=fun {y} hy=>by
   obtain⟨rfl,hk⟩:=s1 hy
   exact⟨(r1 (bP hk)).1,(r1 (bP hk)).2,h3 hk⟩
  have an2:∀ {y},o2=some y→AN (qb 18 6) 6 (uu (qb 18 6)) y.1 y.2∧AN (qb 18 6) 6 (uu (qb 18 6)) y.1 (ex y.1 y.2)∧0<cu (aY y.1 y.2) (aY e.1 e.2):=fun {y} hy=>by
   obtain⟨rfl,hk⟩:=s2 hy
   exact⟨(r2 (bP hk)).1,(r2 (bP hk)).2,h6 hk⟩
  have an3:∀ {y},o1=some y∨o2=some y→AN (qb 18 6) 6 (uu (qb 18 6)) y.1 y.2∧AN (qb 18 6) 6 (uu (qb 18 6)) y.1 (ex y.1 y.2)∧0<cu (aY y.1 y.2) (aY e.1 e.2):=fun {y} hy=>hy.elim an1 an2
  obtain⟨z,hz⟩:∃z:Int,∀y v,o1=some y→o2=some v→cu (aY v.1 v.2) (aY y.1 y.2)=z:=by
   cases o1 with
   | none=>exact⟨0,fun e d h=>by cases h⟩
   | some e =>
    cases o2 with
    | none=>exact⟨0,fun e d _ h=>by cases h⟩
    | some d=>exact⟨_,fun e' d' h h'=>by injection h with h;injection h' with h';rw [←h,←h']⟩
  have hc:∀y v,o1=some y→o2=some v→aD env.P 130 [.ag (gg v), .ag (gg y)] (.int .i64 z):=fun y v h1 h2=>by
   have:=(an2 h2).1.aop (an1 h1).1 cp2
   rw [hz y v h1 h2]at this
   exact this
  have hf:∀y,o1=some y∨o2=some y→aD env.P 207 [.ag (gg y)] (.ag (gg y)):=fun y he=>by
   have A:=(an3 he).1
   exact PO (sU A.I.ch.bz (by decide) (by decide) A.q1 A.q2 (by decide))
  have F:=sV (P:=[a,b]) (y:=e.1.l) (an:=e.2.1.num) (ad:=e.2.1.den) (bn:=e.2.2.num) (bd:=e.2.2.den) (R:=fun i=>if i=0 then o1 else o2) (o:=rD o1 o2 z) (by simp) (fun i hi=>by
   have lT:i=0∨i=1:=by simp at hi;omega
   rcases lT with rfl | rfl
   ·exact g1
   ·exact g2) (ae6 hf hc (by
   show EN _ 2=_
   simp only [EN]
   cases o1<;>cases o2<;>rfl))
  have hfa:∀ {y},o1=some y∨o2=some y→aD env.P 21 [.ag (gg y)] (QB y):=fun {y} hy=>by
   have Y:=(an3 hy).1
   exact Y.I.aey Y.q1 Y.q2 (by decide)
  have SZ:∀ {y v},AN (qb 18 6) 6 (uu (qb 18 6)) y.1 y.2∧AN (qb 18 6) 6 (uu (qb 18 6)) y.1 (ex y.1 y.2)→AN (qb 18 6) 6 (uu (qb 18 6)) v.1 v.2∧AN (qb 18 6) 6 (uu (qb 18 6)) v.1 (ex v.1 v.2)→aD env.P 54 [QB y,QB v] (.int .i64 (cu (aY y.1 y.2) (aY v.1 v.2))):=fun {y v} Y V=>by
   have:=Y.2.aoq V.2 cp2 (by decide) (by decide)
   rwa [gY (exc Y.1) (exc V.1)]at this
  rw [ae5]at g1 g2 F
  obtain⟨xb,b1,b2,b3,b4,y1⟩:=H0 o1
  obtain⟨xc,c1,c2,c3,c4,y2⟩:=H0 o2
  obtain⟨xd,d1,d2,d3,d4,y3⟩:=H0 (rD o1 o2 z)
  refine⟨o1.isSome,o2.isSome,(rD o1 o2 z).isSome,xb,xc,xd,b1,b2,b3,b4,c1,c2,c3,c4,d1,d2,d3,d4,by rw [←y3];exact F,by rw [←y1];exact g1,by rw [←y2];exact g2,H3 _ _ _,fun hs=>?_⟩
  obtain⟨e',mO⟩:=Option.isSome_iff_exists.1 hs
  have hm:=PQ mO
  obtain⟨E1,E2,E3⟩:=an3 hm
  have ae8:∀s t,aY e'.1 e'.2 s→s≤t→aY e'.1 e'.2 t:=fun s t=>E1.A.up
  have acY:∀t,aY e'.1 e'.2 t→aY e.1 e.2 t:=fun t ht=>Classical.byContradiction fun hn=>by
   obtain⟨t2,p1,p2⟩:=(K7 ae8 hUe).1 E3
   by_cases h:t≤t2
   ·exact p2 (ae8 _ _ ht h)
   ·exact hn (hUe _ _ p1 (by grind))
  refine⟨e',by rw [←y3,mO];rfl,hfa hm,⟨_,SZ ⟨E1,E2⟩ ⟨A,Ax⟩,E3⟩,fun so=>?_,fun so=>?_,E1,E2,fun k1' k2' i1 i2=>?_⟩
  ·obtain⟨y,hy⟩:=Option.isSome_iff_exists.1 so
   have hfy:=hfa (.inl hy)
   have hcy:=SZ ⟨E1,E2⟩ ⟨(an1 hy).1,(an1 hy).2.1⟩
   refine⟨_,_,_,_,_,_,_,by rw [←y1,hy];exact hfy,hcy,?_⟩
   rcases hm with hm | hm
   ·rw [hm]at hy;injection hy with hy
    rw [hy,tK];decide
   ·rw [hz y e' hy hm]
    unfold rD at mO
    split at mO
    ·rename_i hh
     rcases hh with hh | hh
     ·rw [hy]at hh;cases hh
     ·omega
    ·rw [hy]at mO;injection mO with mO
     have:=hz y e' hy hm
     rw [mO,tK]at this
     omega
  ·obtain⟨y,hy⟩:=Option.isSome_iff_exists.1 so
   have hfy:=hfa (.inr hy)
   have hcy:=SZ ⟨E1,E2⟩ ⟨(an2 hy).1,(an2 hy).2.1⟩
   refine⟨_,_,_,_,_,_,_,by rw [←y2,hy];exact hfy,hcy,?_⟩
   unfold rD at mO
   split at mO
   ·rw [hy]at mO;injection mO with mO
    rw [mO,tK];decide
   ·rename_i hh
    have hzn:¬z<0:=fun h=>hh (.inr ⟨by rw [hy];rfl,h⟩)
    rw [←hz e' y mO hy]at hzn
    have az4:∀s t,aY y.1 y.2 s→s≤t→aY y.1 y.2 t:=fun s t=>(an2 hy).1.A.up
    exact Int.not_lt.1 fun h=>hzn ((aiA az4 ae8).2 h)
  ·have m1:=x1.mono upF hUe ae8 i1 acY
   have m2:=x2.mono upG hUe ae8 i2 acY
   have hkk:=hk k1 k2 x1 x2
   rcases hm with hm | hm
   ·obtain⟨rfl,dA⟩:=s1 hm
    have:k1'≠k1:=fun h=>by
     have:=i1.gt (by omega)
     rw [h,tK]at this
     exact absurd this (by decide)
    omega
   ·obtain⟨rfl,dA⟩:=s2 hm
    have:k2'≠k2:=fun h=>by
     have:=i2.gt (by omega)
     rw [h,tK]at this
     exact absurd this (by decide)
    omega
end Go.Proofs.YtelhfbikiccfkaaGreat
set_option linter.unusedSimpArgs false
set_option linter.unusedVariables false
namespace Go.Proofs.YtelhfbikiccfkaaGreat.germFirsts
open Go Pm Go.ChangeShapes Go.WideShapes Go.ChangeAt Go.RowKit
theorem K8:GP Tryz.prog 3 (fun ps=>∃n:Int,ps=aG n ∧ -9223372036854775808≤n∧n<9223372036854775808):=
  (GP.int .i64 (by kernel_rfl)).mono fun ps ⟨n,h1,h2,h3⟩=>⟨n,h1,by simpa [IntKind.min,IntKind.signed,IntKind.bits]using h2,by simp [IntKind.max,IntKind.signed,IntKind.bits]at h3;omega⟩
theorem pL:r5 Tryz.prog 22 (fun q=>∃l:List Int,q=aI aG l∧(∀x∈l, -9223372036854775808≤x∧x<9223372036854775808)∧l.length<9223372036854775808):=
  (r5.slice (e:=3) (by kernel_rfl) (by rw [show Tryz.prog.cellsOf 3=1 by kernel_rfl];decide) K8).mono fun q ⟨l,h1,h2,h3⟩=>by
    obtain⟨m,rfl,hm⟩:=maps (g:=aG) (Q:=fun n => -9223372036854775808≤n∧n<9223372036854775808) (fun ps h=>h) h2
    exact⟨m,h1,hm,by rw [List.length_map]at h3;simp only [maxLen]at h3;omega⟩
set_option maxRecDepth 100000 in
theorem lifted(os:Os)(started:os.Started)(H:Type)(enc:TypeId × Value→H) :
    ReturnsInHanded {} Tryz.checked os 10 .any (Rows.germFirstsSpec.pre6 enc Tryz.prog Tryz.f10 Rows.germFirstsRow.domain false) (Rows.germFirstsSpec.post enc Tryz.prog Tryz.f10 false true false false):=by
  refine M6 (C:=Tryz.checked) (Qs:=[fun q=>∃l:List Int,q=aI aG l∧(∀x∈l, -9223372036854775808≤x∧x<9223372036854775808)∧l.length<9223372036854775808,fun q=>∃l:List Int,q=aI aG l∧(∀x∈l, -9223372036854775808≤x∧x<9223372036854775808)∧l.length<9223372036854775808,fun q=>∃n:Int,q = .int .i64 n ∧ -9223372036854775808≤n∧n<9223372036854775808,fun q=>∃n:Int,q = .int .i64 n ∧ -9223372036854775808≤n∧n<9223372036854775808]) (tb:=4) own laidOut started (by kernel_rfl) Tryz.func10
    (ChangeSpec.witness6 (enc:=enc) (C:=Tryz.checked) false ⟨#[], #[.slice none 0 0, .slice none 0 0, .int .i64 0, .int .i64 0],[]⟩ 16 (by kernel_rfl) (by kernel_rfl) (by kernel_rfl) (by kernel_rfl)) rfl ?_ (by kernel_rfl) (by kernel_rfl) ?_ ?_
  · intro ds h
    rw [show Tryz.f10.params.size=4 by kernel_rfl]at h
    match ds,h with
    | [_,_,_,_],_=>rfl
  · rw [show Tryz.f10.params.toList = [22,22,3,3]by kernel_rfl]
    exact⟨pL,by kernel_rfl,of_decide_eq_true (by kernel_rfl),pL,by kernel_rfl,of_decide_eq_true (by kernel_rfl),JM,by kernel_rfl,of_decide_eq_true (by kernel_rfl),JM,by kernel_rfl,of_decide_eq_true (by kernel_rfl),trivial⟩
  · rintro ps h
    obtain⟨_,_,rfl,⟨a0,rfl,h0,g0⟩,⟨_,_,rfl,⟨a1,rfl,h1,g1⟩,⟨_,_,rfl,⟨a2,rfl,h2⟩,⟨_,_,rfl,⟨a3,rfl,h3⟩,rfl⟩⟩⟩⟩:=h
    exact EG a0 a1 a2 a3 h0 g0 h1 g1 h2 h3
theorem z1:(Rows.germFirstsRow.inPlace==Tryz.pinned.checked.prog.inPlace 10)=true:=by kernel_rfl
theorem z2:(Rows.germFirstsRow.unfollowed==Tryz.pinned.checked.prog.unfollowed 10)=true:=by kernel_rfl
theorem z3:(Rows.germFirstsRow.recurses==Tryz.pinned.checked.prog.recurses 10)=true:=by kernel_rfl
theorem z4:(Rows.germFirstsRow.named==Tryz.pinned.checked.prog.varsNamed 10)=true:=by kernel_rfl
theorem closed:joinedFacts Tryz.pinned.checked.prog 10 Tryz.f10 Rows.germFirstsSpec Rows.germFirstsRow=true:=by
  unfold joinedFacts
  rw [z1,z2,z3,z4]
  kernel_rfl
theorem proved:Rows.GermFirstsSaid:=
  OpenClaim.holds_of_wide 10 Tryz.f10 rfl rfl rfl rfl rfl rfl rfl ⟨rfl,rfl,rfl,rfl,rfl⟩ rfl rfl rfl rfl rfl (by kernel_rfl) Tryz.func10 closed
    (of_decide_eq_true (by kernel_rfl)) (by unfold Func.isWrapper;first | (rw [if_pos (by decide +kernel)];kernel_rfl) | (rw [if_neg (by decide +kernel)];exact⟨rfl,rfl⟩))
    (fun os started H enc _=>lifted os started H enc)
#print axioms proved
end Go.Proofs.YtelhfbikiccfkaaGreat.germFirsts
