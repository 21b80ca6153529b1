import Derived.Test.YtelhfbikiccfkaaGreatCaq
import Derived.Test.YtelhfbikiccfkaaGreatCas
import Derived.Test.YtelhfbikiccfkaaGreatCat
set_option linter.unusedSimpArgs false
set_option linter.unusedVariables false
namespace Go.Proofs.YtelhfbikiccfkaaGreat
open Go Pm
open ZX hiding N W
theorem kT{s n:Nat}{f:ZX}{p:Rat × Rat}(I:kR s n f)(hs:s≤100000)(n8:ZX.N f≤8)(hp:p∈lS s n f):AN s n (uu s) f p∧AN s n (uu s) f (ex f p):=by
 obtain⟨a1,a2,a3,a4,a5,a6⟩:=I.ivs.mem _ hp
 obtain⟨_,_,b1,b2,b3⟩:=I.root hp
 have hb:=K4 I.nf (PL I.ch.bz)
 have h1:Ab p.1 (2^(zs f+1)):=by obtain⟨x,y⟩:=hb;exact⟨by grind,by grind⟩
 have h2:Ab p.2 (2^(zs f+1)):=by obtain⟨x,y⟩:=hb;exact⟨by grind,by grind⟩
 have hu:uu s≤30000000:=by unfold uu;omega
 refine⟨⟨I,hs,⟨I.S, .inr ⟨a4,a6⟩⟩,a1,a2,hu,n8,fun _=>h1,fun _=>h2⟩,⟨I,hs,b1,b2,b3,hu,n8,fun _=>?_,fun _=>?_⟩⟩
 ·unfold ex
  split
  ·exact h2
  ·exact h1
 ·unfold ex
  split<;>exact h2
theorem XM(t:Rat):Nf (mH t):=by
 have hd:=t.den_pos
 refine⟨ZX.aH.2 (by rw [yO];decide),?_,?_⟩
 ·rw [sO]
  unfold bQ
  simp only [List.foldl_cons,List.foldl_nil,Nat.gcd_zero_left,Int.natAbs_neg,Int.natAbs_natCast]
  exact t.reduced
 ·rw [sO]
  show 0<nth [-t.num,(t.den:Int)] 1
  show(0:Int)<(t.den:Int)
  omega
theorem aeZ(t:Rat):tJ (mH t) (bX (mH t)):=fun d _ h2=>by
 rw [aeI]at h2
 have hd:=t.den_pos
 have:=h2.nW (ZX.pH (show (t.den:Int)≠0 by omega))
 rwa [ZX.N_K (show (t.den:Int)≠0 by omega)]at this
theorem PN{t:Rat}{s n:Nat}(sb:t.num.natAbs≤30∧((t.den:Int)).natAbs≤6)(hs:5≤s)(hn:2≤n)(h1:n≤20)(h2:n+1≤2^s)(h3:(qb s n+n+6)*4^n≤4500000000)(h4:s≤5000000):kR s n (mH t):=by
 have bz:BZ s n (mH t):=⟨by show ZX.N (mH t)≤_;rw [yO];exact hn,fun c hc=>by
  rw [sO]at hc
  simp only [List.mem_cons,List.not_mem_nil,or_false]at hc
  refine Nat.le_trans (nP (k:=5) ?_) hs
  rcases hc with rfl | rfl<;>omega⟩
 exact⟨⟨bz,h1,h2,h3⟩,by omega,XM t,K2 (XM t) (aeZ t),h4⟩
theorem akL{s n:Nat}{f:ZX}{t:Rat}(I:kR s n f)(hs:s≤100000)(n8:ZX.N f≤8)(h0:e t f=0){u:Nat}(q:SQ u t)(hu:u≤30000000):AN s n u f (t,t)∧Ex f (t,t):=
 ⟨⟨I,hs,⟨I.S, .inl ⟨rfl,h0⟩⟩,q,q,hu,n8,fun h=>absurd h Rat.lt_irrefl,fun h=>absurd h Rat.lt_irrefl⟩,fun _=>rfl⟩
theorem AA(t:Rat):e t (mH t)=0:=by rw [anV];grind
theorem ae0{l:List Int}{k:Int}(hl:l.length<9223372036854775808)(hk : -9223372036854775808≤k∧k<9223372036854775808):∃(f:ZX) (p:Rat × Rat),aD env.P 28 [aI aG l, .int .i64 k] (QA f (aT f) p)∧AN 59 5 7000 f p∧Ex f p∧ZX.N f≤5∧BZ 49 5 f:=by
 obtain⟨c,hc⟩:∃c,c=pks l (min l.length 5):=⟨_,rfl⟩
 have gC:c.length≤5:=by rw [hc,K6];omega
 have hcb:∀x∈c, -6≤x∧x≤6:=fun x hx=>by
  rw [hc]at hx
  simp only [pks,List.mem_map]at hx
  obtain⟨i,_,rfl⟩:=hx
  exact akI l i
 have hOf:=wN c (by omega) (fun x hx=>by have:=hcb x hx;omega)
 rw [show aP c=(ZX.of c).l from rfl,hc]at hOf
 have ba:BZ 3 5 (ZX.of c):=DV (Nat.le_trans (bZ c) gC) fun x hx=>by have:=hcb x (nG _ _ hx);omega
 have bx:∀y∈(ZX.of c).l,y.natAbs≤2^3:=fun y hy=>by have:=hcb y (nG _ _ hy);omega
 rw [←hc]at hOf
 generalize ZX.of c=a at *
 have hS:=HK k l.length hk (by omega)
 have q5:=ad8 k l.length
 have sb:=TP k l.length
 generalize sml k l.length=t at *
 rw [cW]at hS
 have It:=PN (s:=59) (n:=5) sb (by decide) (by decide) (by decide) (by decide) (by decide) (by decide)
 have hR:=uD (n:=t.num) (d:=t.den) (by omega) (by omega) (by have:=t.den_pos;omega) (sO t)
 rw [It.sq]at hR
 have OU:aD env.P 45 [R2 t.num t.den] (.ag (gS (mH t).l (aT (mH t)) t.num t.den t.num t.den)):=by rw [sO];exact hR
 obtain⟨At,Et⟩:=akL (u:=7000) It (by decide) (by rw [yO];decide) (AA t) (q5.mono (by decide)) (by decide)
 have bt:BZ 49 5 (mH t):=⟨by show ZX.N (mH t)≤_;rw [yO];decide,fun c hc=>by
  rw [sO]at hc
  simp only [List.mem_cons,List.not_mem_nil,or_false]at hc
  refine Nat.le_trans (nP (k:=5) ?_) (by decide)
  rcases hc with rfl | rfl<;>omega⟩
 have fin:∀ {r:PV},r = .ag (gS (mH t).l (aT (mH t)) t.num t.den t.num t.den)→aD env.P 28 [aI aG l, .int .i64 k] r → ∃(f:ZX) (p:Rat × Rat),aD env.P 28 [aI aG l, .int .i64 k] (QA f (aT f) p)∧AN 59 5 7000 f p∧Ex f p∧ZX.N f≤5∧BZ 49 5 f:=fun {r} hr h=>⟨mH t,(t,t),by rw [hr]at h;exact h,At,Et,by rw [yO];decide,bt⟩
 have hNl:a.l.length=ZX.N a:=rfl
 have hal:a.l.length≤5:=ba.N
 by_cases h2:a.l.length<2
 ·refine fin rfl (yT (f:=mH t) (L:=[]) (C:=[]) hl hk (hc▸hOf) (by omega) (by decide) hS OU (fun h=>absurd h (by omega)) ?_)
  rw [if_pos (.inl h2)]
 ·have h0:a≠0:=ZX.aH.2 (by omega)
  have La:=Z9 ba
  have I:=aoa La h0 (by decide) (by decide) (by decide)
  have hRo:=vC (qH La (by decide)) (u9 La h0 (by decide) (by decide)) I I.s1
  have nN:ZX.N (sq a)≤5:=I.ch.bz.N
  have bs:BZ 49 5 (sq a):=⟨nN,fun x hx=>by
   have:=aeQ (l:=3) (n:=5) (gW h0) I.nf (z8 h0).2 (h:=3) (fun d hd=>by
    have b1:=(La.bz.nf).lt d hd
    omega) (by rw [wT];exact ba.N) (by decide) x hx
   exact dE (by decide) (Nat.lt_of_le_of_lt this (by decide))⟩
  have hlen:=tL I
  generalize fV:lS (qb 3 5) 5 (sq a)=L0 at *
  by_cases h3:L0 = []
  ·refine fin rfl (yT (f:=sq a) (L:=L0.map (ex (sq a))) (C:=[]) hl hk (hc▸hOf) (by omega) (by rw [List.length_map];omega) hS OU (fun _=>hRo) ?_)
   rw [if_pos (.inr (by rw [h3];rfl))]
  ·have hW:=yT (f:=sq a) (L:=L0.map (ex (sq a))) (C:=[]) hl hk (hc▸hOf) (by omega) (by rw [List.length_map];omega) hS OU (fun _=>hRo) rfl
   rw [if_neg (by rw [not_or];exact⟨h2,by simp [h3]⟩)]at hW
   have hLp:=List.length_pos_iff.2 h3
   have GN:=Int.emod_nonneg k (show (L0.length:Int)≠0 by omega)
   have hm2:=Int.emod_lt_of_pos k (show (0:Int)<L0.length by omega)
   have hj:(k%((L0.map (ex (sq a))).length:Int)).toNat<L0.length:=by rw [List.length_map];omega
   generalize (k%((L0.map (ex (sq a))).length:Int)).toNat=j at *
   have hn:nth (L0.map (ex (sq a))) j=ex (sq a) (nth L0 j):=by rw [dD (by rw [List.length_map];exact hj),List.getElem_map,dD hj]
   rw [hn]at hW
   have A:=(kT I (by decide) (by omega) (p:=nth L0 j) (by rw [fV];exact bP hj)).2
   exact⟨sq a,ex (sq a) (nth L0 j),hW,⟨A.I,A.hs,A.A,A.q1.mono (by decide),A.q2.mono (by decide),by decide,A.n8,A.b1,A.b2⟩,auI _ _,nN,bs⟩
structure SzC(s n S k:Nat):Prop where
 h1:(qb (qb s n) n+n+6)*4^n≤4500000000
 h2:qb s n≤1000000
 hE:(max s (S+5*k)+max n k+1)*2*4^max n k≤4500000000
 hL:(qb (S+5*k) k+k+6)*4^k≤4500000000
 hk:1≤k
 h8:k≤8
 hS:k+1≤2^(S+5*k)
 hS2:S+5*k≤100000
theorem SzC.lay{s n S k:Nat}(z:SzC s n S k){q:ZX}(bq:BZ (S+5*k) k q):nX (S+5*k) k q:=⟨bq,by have:=z.h8;omega,z.hS,z.hL⟩
theorem SzC.s1{s n S k:Nat}(z:SzC s n S k):1≤S+5*k:=by have:=z.hk;omega
theorem SzC.eu{s n S k:Nat}(z:SzC s n S k)(hn:n≤20):Eu (max s (S+5*k)) (max n k):=⟨by have:=z.h8;omega,by have:=z.s1;omega,z.hE⟩
section
variable {s n u S k:Nat} {f:ZX} {p:Rat × Rat} (a:AN s n u f p) (z:SzC s n S k)
include a z
theorem AN.sgC{q:ZX}(bq:BZ (S+5*k) k q):SgC (S+5*k) k f q:=by
 have I:=a.I
 have L:=z.lay bq
 have E:=z.eu I.ch.hn
 refine⟨bq,z.hS2,by have:=z.h8;omega,by have:=bq.N;have:=z.h8;omega,E.ahZ (bq.mono (by omega) (by omega)) (I.ch.bz.mono (by omega) (by omega)),fun _=>⟨_,_,UM I q z.h1 (by have:=z.h2;omega),z.h2⟩,fun h0=>⟨_,_,L.ch h0 z.hk⟩,fun h0=>KI (qE L) (L.ch h0 z.hk) (z8 h0).1⟩
end
theorem AN.sg0{s n u:Nat}{f:ZX}{p:Rat × Rat}(a:AN s n u f p):sgU (aY f p) 0=0:=(show SgU (aY f p) 0 0 from .inl ⟨rfl,PH (fL a.A)⟩).eq (fL a.A)
noncomputable def afU(U:Rat→Prop)(q:ZX):Int:=QC (sgU U) (ZX.N q) q
section
variable {s n u S k:Nat} {f:ZX} {p:Rat × Rat} (a:AN s n u f p) (z:SzC s n S k) {q:ZX} (bq:BZ S k q)
include a z bq
theorem AN.at:aD env.P 32 [Po q.l,GA f p] (.int .i64 (afU (aY f p) q)):=
 ait (sgU (aY f p)) a.sg0 bq (by have:=z.h8;omega) (by have:=z.hS2;omega) fun r s' AD br=>a.sg (a.sgC z (br.mono AD (Nat.le_refl _)))
end
theorem ae1{x:List Int}{c:List ZX}{an ad bn bd:Int}(hT:aD env.P 33 [PI x] (Po x))(h1:aD env.P 24 [R2 an ad] (T2 an ad))(h2:aD env.P 24 [R2 bn bd] (T2 bn bd)):aD env.P 34 [.ag (gS x c an ad bn bd)] (.ag (G9 x an ad bn bd)):=by
 simp only [gS,G9]
 refine bY [(0, .ag (gS x c an ad bn bd))] Tryz.func34 ?_
 refine aA [1,2] ?_
 refine mP ?_
 refine cB hT ?_
 refine cB h1 ?_
 refine aB h2 ?_
 (try (refine a9 (of_decide_eq_true (by kernel_rfl)) ?_));(try simp (maxSteps:=4000000) (disch:=omega) [gw]);(repeat rw [if_pos (by kernel_rfl)]);(try simp (maxSteps:=4000000) (disch:=omega) [gw])
 refine bL [2] ?_
 exact bV
theorem AN.toA{s n u:Nat}{f:ZX}{p:Rat × Rat}(a:AN s n u f p):aD env.P 34 [QA f (aT f) p] (GA f p):=by
 have hu:=a.hu
 have h1:=a.q1.tor (show u≤137438953472 by omega)
 have h2:=a.q2.tor (show u≤137438953472 by omega)
 rw [cW]at h1 h2
 exact ae1 (tH a.I.ch.bz (by have:=a.hs;omega) (by have:=a.I.ch.hn;omega)) h1 h2
theorem aaA{x:List Int}{an ad bn bd:Int}(h:aD env.P 182 [.ag (G9 x an ad bn bd)] (.ag (G9 x an ad bn bd))):aD env.P 207 [.ag (G9 x an ad bn bd)] (.ag (G9 x an ad bn bd)):=by
 simp only [G9]at *
 refine bY [(0, .ag (G9 x an ad bn bd))] Tryz.func207 ?_
 refine aA [1,2] ?_
 refine aJ [2] h ?_
 exact bV
theorem HY:aD env.P 132 [.sl []] (.eB [XL, .bool false]):=by
 refine bY [(0, .sl [])] Tryz.func132 ?_
 refine aA [0,2] ?_
 refine aL [0,2,9] ?_
 refine bC ?_ ?_<;>intro h
 ·refine aA [2,3] ?_
  exact bV
 ·simp at h
theorem PO{e:ZX × Rat × Rat}(h:aD env.P 182 [GA e.1 e.2] (GA e.1 e.2)):aD env.P 207 [.ag (gg e)] (.ag (gg e)):=aaA h
theorem HZ{e:ZX × Rat × Rat}(hf:aD env.P 207 [.ag (gg e)] (.ag (gg e))):aD env.P 132 [aI gg [e]] (.eB [.ag (gg e), .bool true]):=by
 simp only [gg,List.cons_append,List.nil_append]at hf ⊢
 refine bY [(0,aI gg [e])] Tryz.func132 ?_
 refine aA [0,2] ?_
 refine aL [0,2,9] ?_
 refine bC ?_ ?_<;>intro h
 ·simp at h
 refine W.skip ?_
 refine aA [0,2,4] ?_
 refine aL [2,4,15,16,17] ?_
 refine W.block ?_
 refine W.bG (fun k σ=>∃(v2 v4:Nat) (s:PV) (rows:Pm.Rows) (clk:Nat),σ=⟨fa [(2, .ptr 2 v2 0 0),(4, .ptr 4 v4 0 0),(15,s),(16, .int .i64 0),(17, .int .i64 0)],rows,clk⟩∧rows 2=some ⟨v2,54,9,[[.nil, .bool false, .nil, .bool false, .nil, .bool false, .nil, .bool false, .nil]]⟩∧rows 4=some ⟨v4,54,9,[Po e.1.l::(tc e.2.1++tc e.2.2)]⟩) 0 ?_ ?_
 ·exact⟨_,aC _ [2,4,15,16,17],_,_,_,_,_,rfl,by simp,by simp [show nth [e] 0=e from rfl]⟩
 rintro k _ ⟨v2,v4,s,rows,clk,rfl,bR,dS⟩
 simp only [List.cons_append,List.nil_append]at dS
 refine b9 [2,4,15,16,17,18] ?_
 refine bC ?_ ?_<;>intro h
 ·simp at h
 refine eV ?_
 refine W.sr ?_
 simp (disch:=omega) [gw,dS]
 refine aB hf ?_
 simp (disch:=omega) [gw,bR]
 refine bL [2,3] ?_
 exact bV
theorem aaB{e d:ZX × Rat × Rat}{z:Int}(hc:aD env.P 130 [.ag (gg d), .ag (gg e)] (.int .i64 z))(h1:¬z<0→aD env.P 207 [.ag (gg e)] (.ag (gg e)))(h2:z<0→aD env.P 207 [.ag (gg d)] (.ag (gg d))) :
  aD env.P 132 [aI gg [e,d]] (.eB [.ag (gg (if z<0 then d else e)), .bool true]):=by
 obtain⟨w,hw⟩:∃w,(if z<0 then d else e)=w:=⟨_,rfl⟩
 have hf:aD env.P 207 [.ag (gg w)] (.ag (gg w)):=by
  by_cases hz:z<0
  ·rw [if_pos hz]at hw;exact hw▸h2 hz
  ·rw [if_neg hz]at hw;exact hw▸h1 hz
 rw [hw]
 simp only [gg,List.cons_append,List.nil_append]at hc hf ⊢
 refine bY [(0,aI gg [e,d])] Tryz.func132 ?_
 refine aA [0,2] ?_
 refine aL [0,2,9] ?_
 refine bC ?_ ?_<;>intro h
 ·simp at h
 refine W.skip ?_
 refine aA [0,2,4] ?_
 refine aL [2,4,15,16,17] ?_
 refine W.block ?_
 refine W.bG (fun k σ=>∃(i v2 v4:Nat) (rows:Pm.Rows) (clk:Nat),σ=⟨fa [(2, .ptr 2 v2 0 0),(4, .ptr 4 v4 0 0),(15,aI gg [d]),(16, .int .i64 1),(17, .int .i64 i)],rows,clk⟩∧rows 2=some ⟨v2,54,9,[[.nil, .bool false, .nil, .bool false, .nil, .bool false, .nil, .bool false, .nil]]⟩∧rows 4=some ⟨v4,54,9,[if i=0 then gg e else gg w]⟩∧i+k=1) 1 ?_ ?_
 ·exact⟨_,aC _ [2,4,15,16,17],0,_,_,_,_,rfl,by simp,by simp [gg,show nth [e,d] 0=e from rfl],by omega⟩
 rintro k _ ⟨i,v2,v4,rows,clk,rfl,bR,dS,AM⟩
 have hi:i=0∨i=1:=by omega
 rcases hi with rfl | rfl
 ·simp only [if_true,gg,List.cons_append,List.nil_append]at dS
  refine b9 [2,4,15,16,17,18] ?_
  refine bC ?_ ?_<;>intro h
  ·refine W.skip ?_
   refine W.dK (fun σ=>∃(v2 v4:Nat) (rows:Pm.Rows) (clk:Nat),σ=⟨fa [(2, .ptr 2 v2 0 0),(4, .ptr 4 v4 0 0),(15,aI gg [d]),(16, .int .i64 1),(17, .int .i64 0)],rows,clk⟩∧rows 2=some ⟨v2,54,9,[[.nil, .bool false, .nil, .bool false, .nil, .bool false, .nil, .bool false, .nil]]⟩∧rows 4=some ⟨v4,54,9,[gg w]⟩) ?_ ?_
   ·refine aA [2,4,6,15,16,17] ?_
    refine W.sr ?_
    simp (disch:=omega) [gw,dS]
    refine bS [2,4,6,15,16,17,24] hc ?_
    refine bC ?_ ?_<;>intro h
    ·have hz:z<0:=by simpa using h
     rw [if_pos hz]at hw
     subst hw
     refine W.cC (fun K hK=>?_);simp (disch:=omega) [gw,dS]
     exact hK _ ⟨_,aC _ [2,4,15,16,17],_,_,_,_,rfl,by simp [bR],by simp [gg,show nth [d] 0=d from rfl]⟩
    ·have hz:¬z<0:=by simpa using h
     rw [if_neg hz]at hw
     subst hw
     refine W.skip ?_
     exact⟨_,aC _ [2,4,15,16,17],_,_,_,_,rfl,by simp [bR],by simp [dS,gg]⟩
   rintro _ ⟨v2,v4,rows,clk,rfl,bR,dS⟩
   refine W.cC (fun K hK=>?_);simp (disch:=omega) [gw]
   refine hK _ ⟨0,_,aC _ [2,4,15,16,17],by omega,1,_,_,_,_,rfl,bR,by rw [dS];rfl,rfl⟩
  ·simp at h
 ·simp only [gg,List.cons_append,List.nil_append,Nat.one_ne_zero,if_false]at dS
  refine b9 [2,4,15,16,17,18] ?_
  refine bC ?_ ?_<;>intro h
  ·simp at h
  refine eV ?_
  refine W.sr ?_
  simp (disch:=omega) [gw,dS]
  refine aB hf ?_
  simp (disch:=omega) [gw,bR]
  refine bL [2,3] ?_
  exact bV
theorem EE{x y:List Int}{f:ZX}{L:List (Rat × Rat)}{an ad bn bd:Int}{k:Nat}(hT:aD env.P 37 [Po x] (aI (ga f) L))(hl:L.length<1000000)(hk:k≤L.length)(hb:∀i,i<k → ∃z:Int,aD env.P 130 [GA f (nth L i), .ag (G9 y an ad bn bd)] (.int .i64 z)∧¬0<z)(hc:k<L.length → ∃z:Int,aD env.P 130 [GA f (nth L k), .ag (G9 y an ad bn bd)] (.int .i64 z)∧0<z) :
  aD env.P 51 [Po x, .ag (G9 y an ad bn bd)] (.eB [if k<L.length then GA f (nth L k)else XL, .bool (decide (k<L.length))]):=by
 simp only [G9]at *
 refine bY [(0,Po x),(1, .ag (G9 y an ad bn bd))] Tryz.func51 ?_
 refine aA [0,3,4] ?_
 refine W.seq ?_
 refine aJ [3,4,9,10,11] hT ?_
 refine W.block ?_
 refine W.bG (fun m σ=>∃(i v3 v4:Nat) (rows:Pm.Rows) (clk:Nat),σ=⟨fa [(3, .ptr 3 v3 0 0),(4, .ptr 4 v4 0 0),(9,aI (ga f) L),(10, .int .i64 L.length),(11, .int .i64 i)],rows,clk⟩∧rows 3=some ⟨v3,54,9,[G9 y an ad bn bd]⟩∧rows 4=some ⟨v4,54,9,[[.nil, .bool false, .nil, .bool false, .nil, .bool false, .nil, .bool false, .nil]]⟩∧i+m=k) k ?_ ?_
 ·exact⟨_, .refl,0,_,_,_,_,rfl,by simp,by simp,by omega⟩
 rintro m _ ⟨i,v3,v4,rows,clk,rfl,cO,dS,him⟩
 simp only [G9]at cO
 refine b9 [3,4,9,10,11,12] ?_
 refine bC ?_ ?_<;>intro h
 ·have hi:i<L.length:=by simp at h;omega
  refine kW ?_
  refine W.sr ?_
  simp (disch:=omega) [gw,hi]
  refine bL [3,4,7,9,10,11] ?_
  by_cases AM:i<k
  ·obtain⟨z,hz,mJ⟩:=hb i AM
   simp only [GA,ga,List.cons_append,List.nil_append]at hz
   refine W.sr ?_
   simp (disch:=omega) [gw,cO]
   refine bS [3,4,7,9,10,11,18] hz ?_
   refine bC ?_ ?_<;>intro h
   ·exfalso;simp at h;exact mJ h
   refine W.skip ?_
   refine W.cC (fun K hK=>?_);simp (disch:=omega) [gw]
   refine hK _ ⟨m-1,_,aC _ [3,4,9,10,11],by omega,i+1,_,_,_,_,rfl,by simp [cO],by simp [dS],by omega⟩
  ·have aok:i=k:=by omega
   subst aok
   obtain⟨z,hz,mJ⟩:=hc hi
   simp only [GA,ga,List.cons_append,List.nil_append]at hz
   rw [if_pos hi,decide_eq_true hi]
   refine W.sr ?_
   simp (disch:=omega) [gw,cO]
   refine bS [3,4,7,9,10,11,18] hz ?_
   refine bC ?_ ?_<;>intro h
   ·refine W.sr ?_
    simp (disch:=omega) [gw,dS]
    refine bL [4,5] ?_
    exact bV
   ·exfalso;simp at h;omega
 ·have hi:i=L.length:=by simp at h;omega
  have hkL:k=L.length:=by omega
  rw [if_neg (by omega),decide_eq_false (by omega)]
  refine eV ?_
  refine W.sr ?_
  simp (disch:=omega) [gw,dS]
  refine bL [4,5] ?_
  exact bV
abbrev NoA:PV:=.ag [.sl [], .sl [], .sl [], .bool false, .sl [], .bool false, .sl [], .bool false, .sl [], .bool false]
theorem UN{x y:List Int}{f:ZX}{c d:List ZX}{L:List (Rat × Rat)}{an ad bn bd:Int}{k:Nat}(hT:aD env.P 38 [PI x] (aI (qa f c) L))(hl:L.length<1000000)(hk:k≤L.length)(hb:∀i,i<k → ∃z:Int,aD env.P 54 [QA f c (nth L i), .ag (gS y d an ad bn bd)] (.int .i64 z)∧¬0<z)(hc:k<L.length → ∃z:Int,aD env.P 54 [QA f c (nth L k), .ag (gS y d an ad bn bd)] (.int .i64 z)∧0<z) :
  aD env.P 50 [PI x, .ag (gS y d an ad bn bd)] (.eB [if k<L.length then QA f c (nth L k)else NoA, .bool (decide (k<L.length))]):=by
 simp only [gS]at *
 refine bY [(0,PI x),(1, .ag (gS y d an ad bn bd))] Tryz.func50 ?_
 refine aA [0,3,4] ?_
 refine aJ [3,4,6] hT ?_
 refine aL [3,4,6,11,12] ?_
 refine W.block ?_
 refine W.bG (fun m σ=>∃(i v3 v4:Nat) (rows:Pm.Rows) (clk:Nat),σ=⟨fa [(3, .ptr 3 v3 0 0),(4, .ptr 4 v4 0 0),(6,aI (qa f c) L),(11, .int .i64 L.length),(12, .int .i64 i)],rows,clk⟩∧rows 3=some ⟨v3,49,10,[gS y d an ad bn bd]⟩∧rows 4=some ⟨v4,49,10,[[.nil, .nil, .nil, .bool false, .nil, .bool false, .nil, .bool false, .nil, .bool false]]⟩∧i+m=k) k ?_ ?_
 ·exact⟨_, .refl,0,_,_,_,_,rfl,by simp,by simp,by omega⟩
 rintro m _ ⟨i,v3,v4,rows,clk,rfl,cO,dS,him⟩
 simp only [gS]at cO
 refine b9 [3,4,6,11,12,13] ?_
 refine bC ?_ ?_<;>intro h
 ·have hi:i<L.length:=by simp at h;omega
  refine kW ?_
  refine aA [3,4,6,7,11,12] ?_
  by_cases AM:i<k
  ·obtain⟨z,hz,mJ⟩:=hb i AM
   simp only [QA,qa,List.cons_append,List.nil_append]at hz
   refine W.sd ?_
   simp (disch:=omega) [gw,hi,cO]
   refine bS [3,4,6,7,11,12,21] hz ?_
   refine bC ?_ ?_<;>intro h
   ·exfalso;simp at h;exact mJ h
   refine W.skip ?_
   refine W.cC (fun K hK=>?_);simp (disch:=omega) [gw]
   refine hK _ ⟨m-1,_,aC _ [3,4,6,11,12],by omega,i+1,_,_,_,_,rfl,by simp [cO],by simp [dS],by omega⟩
  ·have aok:i=k:=by omega
   subst aok
   obtain⟨z,hz,mJ⟩:=hc hi
   simp only [QA,qa,List.cons_append,List.nil_append]at hz
   rw [if_pos hi,decide_eq_true hi]
   refine W.sd ?_
   simp (disch:=omega) [gw,hi,cO]
   refine bS [3,4,6,7,11,12,21] hz ?_
   refine bC ?_ ?_<;>intro h
   ·refine W.sr ?_
    simp (disch:=omega) [gw,hi,dS]
    refine bL [4,5] ?_
    exact bV
   ·exfalso;simp at h;omega
 ·have hi:i=L.length:=by simp at h;omega
  rw [if_neg (by omega),decide_eq_false (by omega)]
  refine eV ?_
  refine W.sr ?_
  simp (disch:=omega) [gw,dS]
  refine bL [4,5] ?_
  exact bV
def nxo:Option (ZX × Rat × Rat)→PV
 | none => .eB [XL, .bool false]
 | some e => .eB [.ag (gg e), .bool true]
def EN(R:Nat→Option (ZX × Rat × Rat)):Nat→List (ZX × Rat × Rat)
 | 0=>[]
 | i+1=>match R i with
  | none=>EN R i
  | some e=>EN R i ++ [e]
theorem XN(R:Nat→Option (ZX × Rat × Rat)):∀i,(EN R i).length≤i
 | 0=>Nat.le_refl _
 | i+1=>by
  have:=XN R i
  rw [EN];split
  ·omega
  ·rw [List.length_append];simp;omega
theorem sV{P:List ZX}{y:List Int}{an ad bn bd:Int}{R:Nat→Option (ZX × Rat × Rat)}{o:Option (ZX × Rat × Rat)}(hP:P.length<1000)(hR:∀i,i<P.length→aD env.P 51 [Po (nth P i).l, .ag (G9 y an ad bn bd)] (nxo (R i)))(hL:aD env.P 132 [aI gg (EN R P.length)] (nxo o)) :
  aD env.P 53 [.ag (G9 y an ad bn bd),aI zp P] (nxo o):=by
 simp only [G9]at *
 refine bY [(0, .ag (G9 y an ad bn bd)),(1,aI zp P)] Tryz.func53 ?_
 refine aA [1,2,4] ?_
 refine aA [1,2,4,6] ?_
 refine W.nil 6 6 54 9 (by simp) (by decide) (fun K hK=>?_)
 refine W.lw [1,2,4,6] hK ?_;clear hK K;simp
 refine aL [2,4,6,11,12,13] ?_
 refine W.block ?_
 refine W.bG (fun m σ=>∃(i v2 v4 v6:Nat) (rows:Pm.Rows) (clk:Nat),σ=⟨fa [(2, .ptr 2 v2 0 0),(4, .ptr 4 v4 0 0),(6, .own 6 v6 0 (EN R i).length),(11,aI zp P),(12, .int .i64 P.length),(13, .int .i64 i)],rows,clk⟩∧rows 2=some ⟨v2,54,9,[G9 y an ad bn bd]⟩∧rows 4=some ⟨v4,54,9,[[.nil, .bool false, .nil, .bool false, .nil, .bool false, .nil, .bool false, .nil]]⟩∧rows 6=some ⟨v6,54,9,emap gg (EN R i)⟩∧i+m=P.length) P.length ?_ ?_
 ·exact⟨_, .refl,0,_,_,_,_,_,rfl,by simp,by simp,by simp [EN,emap],by omega⟩
 rintro m _ ⟨i,v2,v4,v6,rows,clk,rfl,bR,dS,pG,him⟩
 simp only [G9]at bR
 refine b9 [2,4,6,11,12,13,14] ?_
 refine bC ?_ ?_<;>intro h
 ·have hi:i<P.length:=by simp at h;omega
  have hRi:=hR i hi
  have hal:=XN R i
  refine W.skip ?_
  refine W.dK (fun σ=>∃(v2 v4 v6:Nat) (rows:Pm.Rows) (clk:Nat),σ=⟨fa [(2, .ptr 2 v2 0 0),(4, .ptr 4 v4 0 0),(6, .own 6 v6 0 (EN R (i+1)).length),(11,aI zp P),(12, .int .i64 P.length),(13, .int .i64 i)],rows,clk⟩∧rows 2=some ⟨v2,54,9,[G9 y an ad bn bd]⟩∧rows 4=some ⟨v4,54,9,[[.nil, .bool false, .nil, .bool false, .nil, .bool false, .nil, .bool false, .nil]]⟩∧rows 6=some ⟨v6,54,9,emap gg (EN R (i+1))⟩) ?_ ?_
  ·refine W.sr ?_
   simp (disch:=omega) [gw,hi]
   refine bL [2,4,6,8,11,12,13] ?_
   cases hRe:R i with
   | none =>
    rw [hRe]at hRi
    simp only [nxo]at hRi
    have ha:EN R (i+1)=EN R i:=by rw [EN,hRe]
    rw [ha]
    refine W.sr ?_
    simp (disch:=omega) [gw,bR]
    refine bS [2,4,6,9,10,11,12,13] hRi ?_
    refine aA [2,4,6,9,11,12,13,23] ?_
    refine bC ?_ ?_<;>intro h
    ·simp at h
    refine W.skip ?_
    exact⟨_,aC _ [2,4,6,11,12,13],_,_,_,_,_,rfl,by simp [bR],by simp [dS],by simp [pG]⟩
   | some e =>
    rw [hRe]at hRi
    have ha:EN R (i+1)=EN R i ++ [e]:=by rw [EN,hRe]
    have azU:(EN R i ++ [e]).length=(EN R i).length+1:=by simp
    rw [ha,azU]
    simp only [nxo,gg]at hRi
    refine W.sr ?_
    simp (disch:=omega) [gw,bR]
    refine bS [2,4,6,9,10,11,12,13] hRi ?_
    refine aA [2,4,6,9,11,12,13,23] ?_
    refine bC ?_ ?_<;>intro h
    ·refine W.cC (fun K hK=>?_)
     simp (disch:=omega) [gw,pG]
     exact hK _ ⟨_,aC _ [2,4,6,11,12,13],_,_,_,_,_,rfl,by simp [bR],by simp [dS],by simp [emap,gg]⟩
    ·simp at h
  rintro _ ⟨v2,v4,v6,rows,clk,rfl,bR,dS,pG⟩
  refine W.cC (fun K hK=>?_);simp (disch:=omega) [gw]
  refine hK _ ⟨m-1,_,aC _ [2,4,6,11,12,13],by omega,i+1,_,_,_,_,_,rfl,bR,dS,pG,by omega⟩
 ·have hi:i=P.length:=by simp at h;omega
  subst hi
  refine eV ?_
  refine W.dY (fun K hK=>?_)
  cases o with
  | none =>
   simp only [nxo]at hL ⊢
   simp (disch:=omega) [gw,pG]
   refine aB hL ?_
   simp (disch:=omega) [gw,dS]
   refine W.lw [4,5] hK ?_;clear hK K;simp
   refine W.ret ?_
   simp [go,nxo]
  | some e =>
   simp only [nxo,gg]at hL ⊢
   simp (disch:=omega) [gw,pG]
   refine aB hL ?_
   simp (disch:=omega) [gw,dS]
   refine W.lw [4,5] hK ?_;clear hK K;simp
   refine W.ret ?_
   simp [go,nxo,gg]
set_option maxHeartbeats 4000000 in
theorem EF{l p q al bl x xu xv xw xb xc xd:List Int}{i z an ad bn bd u1 u2 u3 u4 v1 v2 v3 v4 w1 w2 w3 w4 b1 b2 b3 b4 c1 c2 c3 c4 d1 d2 d3 d4:Int}{cc cu cv cw:List ZX}{ok is:Bool}(hP:aD env.P 28 [aI aG l, .int .i64 i] (.ag (gS x cc an ad bn bd)))(hTA:aD env.P 34 [.ag (gS x cc an ad bn bd)] (.ag (G9 x an ad bn bd)))
  (hM1:aD env.P 29 [aI aG p, .int .i64 5] (PI al)) (hM2:aD env.P 29 [aI aG q, .int .i64 5] (PI bl)) (q1:aD env.P 50 [PI al, .ag (gS x cc an ad bn bd)] (.eB [.ag (gS xu cu u1 u2 u3 u4), .bool ok])) (q2:aD env.P 50 [PI bl, .ag (gS x cc an ad bn bd)] (.eB [.ag (gS xv cv v1 v2 v3 v4), .bool is]))
  (hT1:aD env.P 33 [PI al] (Po al)) (hT2:aD env.P 33 [PI bl] (Po bl)) (g1:aD env.P 51 [Po al, .ag (G9 x an ad bn bd)] (.eB [.ag (G9 xb b1 b2 b3 b4), .bool ok])) (r1:ok=true→aD env.P 52 [.sl [G9 xb b1 b2 b3 b4], .sl [gS xu cu u1 u2 u3 u4]] (.bool true))
  (fi:aD env.P 53 [.ag (G9 x an ad bn bd), .sl [[Po al],[Po []],[Po bl]]] (.eB [.ag (G9 xc c1 c2 c3 c4), .bool (ok || is)])) (cm:ok=true→is=true→aD env.P 54 [.ag (gS xv cv v1 v2 v3 v4), .ag (gS xu cu u1 u2 u3 u4)] (.int .i64 z)) (hw:gS xw cw w1 w2 w3 w4=if ok=false∨(is=true∧z<0)then gS xv cv v1 v2 v3 v4 else gS xu cu u1 u2 u3 u4)
  (r2:(ok || is)=true→aD env.P 52 [.sl [G9 xc c1 c2 c3 c4], .sl [gS xw cw w1 w2 w3 w4]] (.bool true)) (f0:aD env.P 53 [.ag (G9 x an ad bn bd), .sl []] (.eB [.ag (G9 xd d1 d2 d3 d4), .bool false])) :
  aD env.P 9 [aI aG l, .int .i64 i,aI aG p,aI aG q] (.bool true):=by
 have aol:=z9
 replace fi:aD env.P 53 [.ag (G9 x an ad bn bd), .sl [[Po al],[.sl []],[Po bl]]] (.eB [.ag (G9 xc c1 c2 c3 c4), .bool (ok || is)]):=fi
 simp only [gS,G9]at *
 refine bY [(0,aI aG l),(1, .int .i64 i),(2,aI aG p),(3,aI aG q)] Tryz.func9 ?_
 refine aA [0,1,2,3] ?_
 refine aJ [2,3,9] hP ?_
 refine aJ [2,3,9,10] hTA ?_
 refine iB ?_
 refine cB hM1 ?_
 refine bS [9,10,11,12] hM2 ?_
 refine aJ [9,10,11,12,13,14] q1 ?_
 refine aJ [10,11,12,13,14,15,16] q2 ?_
 refine mP ?_
 refine cB hT1 ?_
 refine aB g1 ?_
 simp (maxSteps:=4000000) (disch:=omega) [gw]
 (try (refine a9 (of_decide_eq_true (by kernel_rfl)) ?_));(try simp (maxSteps:=4000000) (disch:=omega) [gw]);(repeat rw [if_pos (by kernel_rfl)]);(try simp (maxSteps:=4000000) (disch:=omega) [gw])
 refine bL [10,11,12,13,14,15,16,17,18] ?_
 refine W.seq ?_
 refine W.fG (fun σ=>∃(v10 v13 v15:Nat) (rows:Pm.Rows) (clk:Nat),σ=⟨fa [(10, .ptr 10 v10 0 0),(11,PI al),(12,PI bl),(13, .ptr 13 v13 0 0),(14, .bool ok),(15, .ptr 15 v15 0 0),(16, .bool is),(65, .bool false)],rows,clk⟩∧rows 10=some ⟨v10,54,9,[G9 x an ad bn bd]⟩∧rows 13=some ⟨v13,49,10,[gS xu cu u1 u2 u3 u4]⟩∧rows 15=some ⟨v15,49,10,[gS xv cv v1 v2 v3 v4]⟩) (fun K hK=>?_) ?_
 ·cases ok with
  | false =>
   simp (disch:=omega) [gw]
   exact hK _ _ (aC _ [10,11,12,13,14,15,16,65]) ⟨_,_,_,_,_,rfl,by simp,by simp,by simp⟩
  | true =>
   have r1':=r1 rfl
   simp (disch:=omega) [gw]
   refine cB r1' ?_
   exact hK _ _ (aC _ [10,11,12,13,14,15,16,65]) ⟨_,_,_,_,_,rfl,by simp,by simp,by simp⟩
 rintro _ ⟨v10,v13,v15,rows,clk,rfl,jN,iQ,xI⟩
 refine bC ?_ ?_<;>intro h
 ·simp at h
 refine W.skip ?_
 simp only [G9]at jN
 refine W.sd ?_
 simp (disch:=omega) [gw,jN]
 refine cB hT1 ?_
 refine cB hT2 ?_
 refine aB fi ?_
 simp (maxSteps:=4000000) (disch:=omega) [gw]
 (try (refine a9 (of_decide_eq_true (by kernel_rfl)) ?_));(try simp (maxSteps:=4000000) (disch:=omega) [gw]);(repeat rw [if_pos (by kernel_rfl)]);(try simp (maxSteps:=4000000) (disch:=omega) [gw])
 refine bL [10,13,14,15,16,19,20] ?_
 refine W.seq ?_
 refine W.fG (fun σ=>∃(v19:Nat) (rows:Pm.Rows) (clk:Nat),σ=⟨fa [(10, .ptr 10 v10 0 0),(13, .ptr 13 v13 0 0),(14, .bool ok),(15, .ptr 15 v15 0 0),(16, .bool is),(19, .ptr 19 v19 0 0),(20, .bool (ok || is)),(81, .bool false)],rows,clk⟩∧rows 10=some ⟨v10,54,9,[G9 x an ad bn bd]⟩∧rows 13=some ⟨v13,49,10,[gS xu cu u1 u2 u3 u4]⟩∧rows 15=some ⟨v15,49,10,[gS xv cv v1 v2 v3 v4]⟩∧rows 19=some ⟨v19,54,9,[G9 xc c1 c2 c3 c4]⟩) (fun K hK=>?_) ?_
 ·cases ok with
  | false =>
   cases is with
   | false =>
    simp (disch:=omega) [gw]
    exact hK _ _ (aC _ [10,13,14,15,16,19,20,81]) ⟨_,_,_,rfl,by simp [jN],by simp [iQ],by simp [xI],by simp⟩
   | true =>
    simp (disch:=omega) [gw]
    exact hK _ _ (aC _ [10,13,14,15,16,19,20,81]) ⟨_,_,_,rfl,by simp [jN],by simp [iQ],by simp [xI],by simp⟩
  | true =>
   simp (disch:=omega) [gw]
   exact hK _ _ (aC _ [10,13,14,15,16,19,20,81]) ⟨_,_,_,rfl,by simp [jN],by simp [iQ],by simp [xI],by simp⟩
 clear jN iQ xI rows clk
 rintro _ ⟨v19,rows,clk,rfl,jN,iQ,xI,AW⟩
 refine bC ?_ ?_<;>intro h
 ·simp at h
 refine W.skip ?_
 refine W.gD (fun σ=>∃(rows:Pm.Rows) (clk:Nat),σ=⟨fa [(10, .ptr 10 v10 0 0)],rows,clk⟩∧rows 10=some ⟨v10,54,9,[G9 x an ad bn bd]⟩) ?_ ?_
 ·refine aA [10,13,14,15,16,19,82] ?_
  refine bC ?_ ?_<;>intro h
  ·have h:(ok || is)=true:=by simpa using h
   have r2':=r2 h
   refine W.sr ?_
   simp (disch:=omega) [gw,iQ]
   refine bL [10,13,14,15,16,19,21] ?_
   refine W.gD (fun σ=>∃(v21:Nat) (rows:Pm.Rows) (clk:Nat),σ=⟨fa [(10, .ptr 10 v10 0 0),(19, .ptr 19 v19 0 0),(21, .ptr 21 v21 0 0)],rows,clk⟩∧rows 10=some ⟨v10,54,9,[G9 x an ad bn bd]⟩∧rows 19=some ⟨v19,54,9,[G9 xc c1 c2 c3 c4]⟩∧rows 21=some ⟨v21,49,10,[gS xw cw w1 w2 w3 w4]⟩) ?_ ?_
   ·refine W.fG (fun σ=>∃(v21:Nat) (rows:Pm.Rows) (clk:Nat),σ=⟨fa [(10, .ptr 10 v10 0 0),(15, .ptr 15 v15 0 0),(19, .ptr 19 v19 0 0),(21, .ptr 21 v21 0 0),(94, .bool (decide (ok=false∨(is=true∧z<0))))],rows,clk⟩∧rows 10=some ⟨v10,54,9,[G9 x an ad bn bd]⟩∧rows 15=some ⟨v15,49,10,[gS xv cv v1 v2 v3 v4]⟩∧rows 19=some ⟨v19,54,9,[G9 xc c1 c2 c3 c4]⟩∧rows 21=some ⟨v21,49,10,[gS xu cu u1 u2 u3 u4]⟩) (fun K hK=>?_) ?_
    ·cases ok with
     | false =>
      simp (disch:=omega) [gw]
      exact hK _ _ (aC _ [10,15,19,21,94]) ⟨_,_,_,by simp;exact⟨rfl,rfl,rfl⟩,by simp [jN],by simp [xI],by simp [AW],by simp⟩
     | true =>
      cases is with
      | false =>
       simp (disch:=omega) [gw]
       exact hK _ _ (aC _ [10,15,19,21,94]) ⟨_,_,_,by simp;exact⟨rfl,rfl,rfl⟩,by simp [jN],by simp [xI],by simp [AW],by simp⟩
      | true =>
       have cm':=cm rfl rfl
       simp (disch:=omega) [gw,iQ,xI]
       refine cB cm' ?_
       exact hK _ _ (aC _ [10,15,19,21,94]) ⟨_,_,_,by simp;exact⟨rfl,rfl,rfl⟩,by simp [jN],by simp [xI],by simp [AW],by simp⟩
    clear jN iQ xI AW rows clk
    rintro _ ⟨v21,rows,clk,rfl,jN,xI,AW,ae2⟩
    refine bC ?_ ?_<;>intro h
    ·have hc:ok=false∨(is=true∧z<0):=of_decide_eq_true h
     rw [if_pos hc]at hw
     refine W.cC (fun K hK=>?_);simp (disch:=omega) [gw,xI,ae2]
     exact hK _ ⟨_,aC _ [10,19,21],_,_,_,rfl,by simp [jN],by simp [AW],by simp only [gS];rw [hw];simp⟩
    ·have hc:¬(ok=false∨(is=true∧z<0)):=of_decide_eq_false h
     rw [if_neg hc]at hw
     refine W.skip ?_
     exact⟨_,aC _ [10,19,21],_,_,_,rfl,by simp [jN],by simp [AW],by simp only [gS];rw [hw];simp [ae2]⟩
   clear jN iQ xI AW rows clk
   rintro _ ⟨v21,rows,clk,rfl,jN,AW,ae2⟩
   simp only [G9,gS]at AW ae2
   refine W.sr ?_
   simp (disch:=omega) [gw,AW,ae2]
   refine bS [10,101] r2' ?_
   refine bC ?_ ?_<;>intro h
   ·simp at h
   refine W.skip ?_
   exact⟨_,aC _ [10],_,_,rfl,by simp [jN]⟩
  ·refine W.skip ?_
   exact⟨_,aC _ [10],_,_,rfl,by simp [jN]⟩
 clear jN iQ xI AW rows clk
 rintro _ ⟨rows,clk,rfl,jN⟩
 simp only [G9]at jN
 refine W.sr ?_
 simp (disch:=omega) [gw,jN]
 refine bS [23] f0 ?_
 refine aJ [8] aol ?_
 exact bV
theorem aaE(l:List Int):nX 18 6 (made l 5)∧nX 18 6 (mir (made l 5))∧nX 20 6 (made l 5*K (-3))∧nX 35 11 (made l 5*made l 5):=by
 obtain⟨h1,h2⟩:=W4 l 5
 have h0:=(BH l 5).1
 have h3:n1 (mir (made l 5))=n1 (made l 5):=by
  show l1 (KX (made l 5).l (made l 5).l.length)=l1 (made l 5).l
  have key:∀(x:List Int) (i:Nat),i≤x.length→l1 (KX x i)=l1 (x.take i):=fun x i=>by
   have app:∀(y:List Int) (c:Int),l1 (y ++ [c])=l1 y+c.natAbs:=fun y c=>by simp [l1]
   induction i with
   | zero=>intro _;rfl
   | succ i ih =>
    intro h
    rw [KX,app,ih (by omega),bI (by omega),app]
    split<;>simp
  rw [key _ _ (Nat.le_refl _),List.take_length]
 have h4:=D5 (made l 5) (K (-3))
 have h5:=ail (-3)
 have h6:=D5 (made l 5) (made l 5)
 have h7:n1 (made l 5)*n1 (K (-3))≤(3*9^5)*3:=Nat.mul_le_mul h1 h5
 have h8:n1 (made l 5)*n1 (made l 5)≤(3*9^5)*(3*9^5):=Nat.mul_le_mul h1 h1
 have h9:3*9^5=177147:=by decide
 rw [h9]at h1 h7 h8
 have e1:(2:Nat)^18=262144:=by decide
 have e2:(2:Nat)^20=1048576:=by decide
 have e3:(2:Nat)^35=34359738368:=by decide
 refine⟨⟨BZ.O4 (by omega) h2,by decide,by decide,by decide⟩,⟨BZ.O4 (by omega) (by rw [auk];exact h2),by decide,by decide,by decide⟩,⟨BZ.O4 (by omega) ?_,by decide,by decide,by decide⟩,⟨BZ.O4 (by omega) ?_,by decide,by decide,by decide⟩⟩
 ·rw [ZX.j1 h0 (ZX.pH (by decide)),ZX.N_K (by decide)];omega
 ·rw [ZX.j1 h0 h0];omega
structure CpC(s n s' n':Nat):Prop where
 hE:(max s s'+max n n'+1)*2*4^max n n'≤4500000000
 h1:(qb (qb s n) n+n+6)*4^n≤4500000000
 h2:qb s n≤1000000
 h3:(qb (qb s' n') n'+n'+6)*4^n'≤4500000000
 h4:qb s' n'≤1000000
 hS:max s s'≤20000
 h20:max n n'≤20
section
variable {s n u s' n' u':Nat} {f h:ZX} {p q:Rat × Rat} (a:AN s n u f p) (b:AN s' n' u' h q) (c:CpC s n s' n')
include a b c
theorem AN.aop:aD env.P 130 [GA f p,GA h q] (.int .i64 (cu (aY f p) (aY h q))):=
 have E:Eu (max s s') (max n n'):=⟨c.h20,by have:=a.I.s1;omega,c.hE⟩
 a.cmp b (E.ahZ (a.I.ch.bz.mono (by omega) (by omega)) (b.I.ch.bz.mono (by omega) (by omega))) fun _=>⟨_,_,UM b.I f c.h3 (by have:=c.h4;omega),c.h4⟩
theorem AN.aoq(hu:u≤2200000)(PT:u'≤2200000):aD env.P 54 [QA f (aT f) p,QA h (aT h) q] (.int .i64 (cu (aY f p) (aY h q))):=
 azQ a.I b.I (S:=max s s') (N:=max n n') (by omega) (by omega) (by omega) (by omega) c.h20 (by
  have h1:=a.I.lay.hs
  have h2:=b.I.lay.hs
  have h3:2^s≤2^max s s':=Nat.pow_le_pow_right (by decide) (by omega)
  have h4:2^s'≤2^max s s':=Nat.pow_le_pow_right (by decide) (by omega)
  omega) c.hS c.hE c.h1 (by have:=c.h2;omega) a.A b.A (u:=max u u') (a.q1.mono (by omega)) (a.q2.mono (by omega)) (b.q1.mono (by omega)) (b.q2.mono (by omega)) (by omega)
end
theorem ae3{s n:Nat}{f:ZX}{p:Rat × Rat}(I:kR s n f)(hs:s≤20000)(hp:p∈lS s n f):aD env.P 52 [.sl [ga f p], .sl [qa f (aT f) (ex f p)]] (.bool true):=by
 obtain⟨a1,a2,a3,a4,a5,a6⟩:=I.ivs.mem _ hp
 have A:j7 f (vt (aT f)) p.1 p.2:=⟨I.S, .inr ⟨a4,a6⟩⟩
 obtain⟨c1,c2⟩:=qO A
 have c3:SQ (uu s) (ex f p).1∧SQ (uu s) (ex f p).2:=by
  unfold ex;split
  ·exact⟨a2,a2⟩
  ·exact⟨a1,a2⟩
 exact I.right hs (XI I.nf A) (l:=[p]) (m:=[ex f p]) rfl (u:=uu s) (by unfold uu;omega) (fun x hx=>by rw [List.mem_singleton.1 hx];exact⟨A,a1,a2⟩) (fun x hx=>by rw [List.mem_singleton.1 hx];exact⟨c1,c3⟩) (fun i hi t=>by
  have:i=0:=by simp at hi;exact hi
  subst this
  exact(c2 t).symm) (by simp)
def ax:Option (ZX × Rat × Rat)→List PV
 | none=>gS [] [] 0 0 0 0
 | some e=>qa e.1 (aT e.1) (ex e.1 e.2)
def gx:Option (ZX × Rat × Rat)→List PV
 | none=>G9 [] 0 0 0 0
 | some e=>gg e
theorem ae4(o:Option (ZX × Rat × Rat)):∃(x:List Int) (c:List ZX) (an ad bn bd:Int),ax o=gS x c an ad bn bd:=by
 cases o with
 | none=>exact⟨_,_,_,_,_,_,rfl⟩
 | some e=>exact⟨_,_,_,_,_,_,rfl⟩
theorem H0(o:Option (ZX × Rat × Rat)):∃(x:List Int) (an ad bn bd:Int),gx o=G9 x an ad bn bd:=by
 cases o with
 | none=>exact⟨_,_,_,_,_,rfl⟩
 | some e=>exact⟨_,_,_,_,_,rfl⟩
theorem ae5(o:Option (ZX × Rat × Rat)):nxo o = .eB [.ag (gx o), .bool o.isSome]:=by
 cases o with
 | none=>show PV.eB [XL,_] = .eB [.ag (G9 [] 0 0 0 0),_];simp [G9,i6];exact⟨rfl,rfl⟩
 | some e=>rfl
def nxt(f:ZX)(L:List (Rat × Rat))(k:Nat):Option (ZX × Rat × Rat):=if k<L.length then some (f,nth L k)else none
theorem tM{s n s' n' u':Nat}{a f h:ZX}{q:Rat × Rat}(I:kR s n f)(hs:s≤20000)(n8:ZX.N f≤8)(hT:aD env.P 37 [Po a.l] (aI (ga f) (lS s n f)))(hQ:aD env.P 38 [PI a.l] (aI (qa f (aT f)) ((lS s n f).map (ex f))))(b:AN s' n' u' h q)(PT:u'≤2200000)(c:CpC s n s' n') :
  ∃k,k≤(lS s n f).length∧(∀i,i<k→¬0<cu (aY f (nth (lS s n f) i)) (aY h q))∧(k<(lS s n f).length→0<cu (aY f (nth (lS s n f) k)) (aY h q))∧aD env.P 51 [Po a.l,GA h q] (nxo (nxt f (lS s n f) k))∧aD env.P 50 [PI a.l,QA h (aT h) q] (.eB [.ag (ax (nxt f (lS s n f) k)), .bool (nxt f (lS s n f) k).isSome]):=by
 obtain⟨k,h1,h2,h3⟩:=qP (fun i=>0<cu (aY f (nth (lS s n f) i)) (aY h q)) (lS s n f).length
 have hl:=tL I
 have hP:=fun i (hi:i<(lS s n f).length)=>(kT I (by omega) n8 (bP hi)).1.aop b c
 have hR:=fun i (hi:i<(lS s n f).length)=>(kT I (by omega) n8 (bP hi)).2.aoq b c (by unfold uu;omega) PT
 have hx:∀i,i<(lS s n f).length→cu (aY f (ex f (nth (lS s n f) i))) (aY h q)=cu (aY f (nth (lS s n f) i)) (aY h q):=fun i hi=>by
  obtain⟨a1,a2,a3,a4,a5,a6⟩:=I.ivs.mem _ (bP hi)
  exact gY (qO ⟨I.S, .inr ⟨a4,a6⟩⟩).2 fun _=>Iff.rfl
 have hm:∀i,i<(lS s n f).length→nth ((lS s n f).map (ex f)) i=ex f (nth (lS s n f) i):=fun i hi=>UA hi
 have hml:((lS s n f).map (ex f)).length=(lS s n f).length:=List.length_map _
 refine⟨k,h1,h2,h3,?_,?_⟩
 ·have:=EE (k:=k) hT (by omega) h1 (fun i hi=>⟨_,hP i (by omega),h2 i hi⟩) (fun hk=>⟨_,hP k hk,h3 hk⟩)
  unfold nxt
  by_cases hk:k<(lS s n f).length
  ·rw [if_pos hk,decide_eq_true hk]at this
   rw [if_pos hk];exact this
  ·rw [if_neg hk,decide_eq_false hk]at this
   rw [if_neg hk];exact this
 ·have:=UN (k:=k) (y:=h.l) (d:=aT h) (an:=q.1.num) (ad:=q.1.den) (bn:=q.2.num) (bd:=q.2.den) hQ (by omega) (by omega) (fun i hi=>⟨_,by rw [hm i (by omega)];exact hR i (by omega),by rw [hx i (by omega)];exact h2 i hi⟩) (fun hk=>⟨_,by rw [hm k (by omega)];exact hR k (by omega),by rw [hx k (by omega)];exact h3 (by omega)⟩)
  unfold nxt
  by_cases hk:k<(lS s n f).length
  ·rw [hml,if_pos hk,decide_eq_true hk,hm k hk]at this
   rw [if_pos hk];exact this
  ·rw [hml,if_neg hk,decide_eq_false hk]at this
   rw [if_neg hk]
   have e1:PV.ag (ax none)=NoA:=by show PV.ag (gS [] [] 0 0 0 0)=_;simp [gS,i6];exact⟨rfl,rfl,rfl⟩
   rw [e1];exact this
theorem aaG{y:List Int}{an ad bn bd:Int}:aD env.P 51 [Po [], .ag (G9 y an ad bn bd)] (nxo none):=by
 have:=EE (x:=[]) (y:=y) (f:=0) (L:=[]) (k:=0) (an:=an) (ad:=ad) (bn:=bn) (bd:=bd) UD (by decide) (Nat.le_refl _) (fun i hi=>absurd hi (Nat.not_lt_zero _)) (fun hk=>absurd hk (by simp))
 exact this
def rD(o1 o2:Option (ZX × Rat × Rat))(z:Int):Option (ZX × Rat × Rat):=if o1.isSome=false∨(o2.isSome=true∧z<0)then o2 else o1
theorem ae6{o1 o2:Option (ZX × Rat × Rat)}{z:Int}(hf:∀e,o1=some e∨o2=some e→aD env.P 207 [.ag (gg e)] (.ag (gg e)))(hc:∀e d,o1=some e→o2=some d→aD env.P 130 [.ag (gg d), .ag (gg e)] (.int .i64 z)){L:List (ZX × Rat × Rat)}(hL:L=o1.toList++o2.toList):aD env.P 132 [aI gg L] (nxo (rD o1 o2 z)):=by
 subst hL
 cases o1 with
 | none =>
  cases o2 with
  | none=>exact HY
  | some d=>exact HZ (hf d (.inr rfl))
 | some e =>
  cases o2 with
  | none=>exact HZ (hf e (.inl rfl))
  | some d =>
   have:=aaB (hc e d rfl rfl) (fun _=>hf e (.inl rfl)) (fun _=>hf d (.inr rfl))
   unfold rD
   by_cases hz:z<0
   ·rw [if_pos hz]at this
    rw [if_pos (.inr ⟨rfl,hz⟩)];exact this
   ·rw [if_neg hz]at this
    rw [if_neg (by rintro(h | ⟨_,h⟩);cases h;exact hz h)];exact this
theorem H3(o1 o2:Option (ZX × Rat × Rat))(z:Int):(rD o1 o2 z).isSome=(o1.isSome || o2.isSome):=by
 unfold rD
 cases o1<;>cases o2<;>simp
 split<;>rfl
theorem PQ{o1 o2:Option (ZX × Rat × Rat)}{z:Int}{e:ZX × Rat × Rat}(h:rD o1 o2 z=some e):o1=some e∨o2=some e:=by
 unfold rD at h
 split at h
 ·exact .inr h
 ·exact .inl h
theorem XO{f:ZX}{L:List (Rat × Rat)}{k:Nat}{e:ZX × Rat × Rat}(h:nxt f L k=some e):e.1=f∧e.2∈L:=by
 unfold nxt at h
 split at h
 ·injection h with h
  subst h
  exact⟨rfl,bP (by assumption)⟩
 ·cases h
theorem cp1:CpC (qb 18 6) 6 59 5:=⟨by decide,by decide,by decide,by decide,by decide,by decide,by decide⟩
theorem cp2:CpC (qb 18 6) 6 (qb 18 6) 6:=⟨by decide,by decide,by decide,by decide,by decide,by decide,by decide⟩
theorem FP(l:List Int)(i:Int)(m p:List Int)(hb:∀x∈l, -9223372036854775808≤x∧x<9223372036854775808)(hl:l.length<9223372036854775808)(hi : -9223372036854775808≤i∧i<9223372036854775808)(hmb:∀x∈m, -9223372036854775808≤x∧x<9223372036854775808)(hml:m.length<9223372036854775808)(hpb:∀x∈p, -9223372036854775808≤x∧x<9223372036854775808)(ET:p.length<9223372036854775808) :
  aD env.P 9 [aI aG l, .int .i64 i,aI aG m,aI aG p] (.bool true):=by
 obtain⟨h,q,hP,B,hE,_,_⟩:=ae0 (l:=l) (k:=i) hl hi
 have mk:∀r:List Int,made r 5≠0∧nX 18 6 (made r 5):=fun r=>⟨(BH r 5).1,(aaE r).1⟩
 have hM1:=w8 m hml hmb 5 (by decide)
 have hM2:=w8 p ET hpb 5 (by decide)
 obtain⟨a0,La⟩:=mk m
 obtain⟨b0,Lb⟩:=mk p
 generalize made m 5=a at *
 generalize made p 5=b at *
 have gen:∀ {x:ZX},x≠0→nX 18 6 x→kR (qb 18 6) 6 (oz (nf x))∧aD env.P 37 [Po x.l] (aI (ga (oz (nf x))) (lS (qb 18 6) 6 (oz (nf x))))∧aD env.P 38 [PI x.l] (aI (qa (oz (nf x)) (aT (oz (nf x)))) ((lS (qb 18 6) 6 (oz (nf x))).map (ex (oz (nf x))))):=fun {x} x0 Lx=>by
  have I:=EC Lx x0 (by decide) (by decide) (by decide)
  exact⟨I,xF Lx x0 (by decide) (by decide) (by decide),EB (m:=[]) (sC x0) (HE Lx (by decide) x0) (vC I.KZ I.D8 I I.s1)⟩
 obtain⟨If,hTa,hQa⟩:=gen a0 La
 obtain⟨Ig,hTb,hQb⟩:=gen b0 Lb
 have nf8:ZX.N (oz (nf a))≤8:=Nat.le_trans If.ch.bz.N (by decide)
 have ng8:ZX.N (oz (nf b))≤8:=Nat.le_trans Ig.ch.bz.N (by decide)
 obtain⟨k1,_,_,_,g1,q1⟩:=tM If (by decide) nf8 hTa hQa B (by decide) cp1
 obtain⟨k2,_,_,_,g2,q2⟩:=tM Ig (by decide) ng8 hTb hQb B (by decide) cp1
 have m1:=fun {e} he=>XO (f:=oz (nf a)) (L:=lS (qb 18 6) 6 (oz (nf a))) (k:=k1) (e:=e) he
 have m2:=fun {e} he=>XO (f:=oz (nf b)) (L:=lS (qb 18 6) 6 (oz (nf b))) (k:=k2) (e:=e) he
 obtain⟨o1,ho1⟩:∃o1,nxt (oz (nf a)) (lS (qb 18 6) 6 (oz (nf a))) k1=o1:=⟨_,rfl⟩
 obtain⟨o2,ho2⟩:∃o2,nxt (oz (nf b)) (lS (qb 18 6) 6 (oz (nf b))) k2=o2:=⟨_,rfl⟩
 rw [ho1]at g1 q1 m1
 rw [ho2]at g2 q2 m2
 have an1:∀ {e},o1=some e→AN (qb 18 6) 6 (uu (qb 18 6)) e.1 e.2∧AN (qb 18 6) 6 (uu (qb 18 6)) e.1 (ex e.1 e.2)∧aD env.P 52 [.sl [gg e], .sl [qa e.1 (aT e.1) (ex e.1 e.2)]] (.bool true):=fun {e} he=>by
  obtain⟨x1,x2⟩:=m1 he
  obtain⟨y,w⟩:=e
  dsimp only at x1 x2 ⊢
  subst x1
  exact⟨(kT If (by decide) nf8 x2).1,(kT If (by decide) nf8 x2).2,ae3 If (by decide) x2⟩
 have an2:∀ {e},o2=some e→AN (qb 18 6) 6 (uu (qb 18 6)) e.1 e.2∧AN (qb 18 6) 6 (uu (qb 18 6)) e.1 (ex e.1 e.2)∧aD env.P 52 [.sl [gg e], .sl [qa e.1 (aT e.1) (ex e.1 e.2)]] (.bool true):=fun {e} he=>by
  obtain⟨x1,x2⟩:=m2 he
  obtain⟨y,w⟩:=e
  dsimp only at x1 x2 ⊢
  subst x1
  exact⟨(kT Ig (by decide) ng8 x2).1,(kT Ig (by decide) ng8 x2).2,ae3 Ig (by decide) x2⟩
 have an3:∀ {e},o1=some e∨o2=some e→AN (qb 18 6) 6 (uu (qb 18 6)) e.1 e.2∧AN (qb 18 6) 6 (uu (qb 18 6)) e.1 (ex e.1 e.2)∧aD env.P 52 [.sl [gg e], .sl [qa e.1 (aT e.1) (ex e.1 e.2)]] (.bool true):=fun {e} he=>he.elim an1 an2
 obtain⟨z,hz⟩:∃z:Int,∀e d,o1=some e→o2=some d→cu (aY d.1 d.2) (aY e.1 e.2)=z:=by
  cases o1 with
  | none=>exact⟨0,fun e d h=>by cases h⟩
  | some e =>
   cases o2 with
   | none=>exact⟨0,fun e d _ h=>by cases h⟩
   | some d=>exact⟨_,fun e' d' h h'=>by injection h with h;injection h' with h';rw [←h,←h']⟩
 have hc:∀e d,o1=some e→o2=some d→aD env.P 130 [.ag (gg d), .ag (gg e)] (.int .i64 z):=fun e d h1 h2=>by
  have:=(an2 h2).1.aop (an1 h1).1 cp2
  rw [hz e d h1 h2]at this
  exact this
 have hf:∀e,o1=some e∨o2=some e→aD env.P 207 [.ag (gg e)] (.ag (gg e)):=fun e he=>by
  have A:=(an3 he).1
  exact PO (sU A.I.ch.bz (by decide) (by decide) A.q1 A.q2 (by decide))
 have F0:=sV (P:=[]) (y:=h.l) (an:=q.1.num) (ad:=q.1.den) (bn:=q.2.num) (bd:=q.2.den) (R:=fun _=>none) (o:=none) (by decide) (fun i hi=>absurd hi (by simp)) HY
 have F3:=sV (P:=[a,0,b]) (y:=h.l) (an:=q.1.num) (ad:=q.1.den) (bn:=q.2.num) (bd:=q.2.den) (R:=fun i=>if i=0 then o1 else if i=1 then none else o2) (o:=rD o1 o2 z) (by simp) (fun i hi=>by
   have lT:i=0∨i=1∨i=2:=by simp at hi;omega
   rcases lT with rfl | rfl | rfl
   ·exact g1
   ·exact aaG
   ·exact g2) (ae6 hf hc (by
   show EN _ 3=_
   simp only [EN]
   cases o1<;>cases o2<;>rfl))
 have cO:∀ {e},rD o1 o2 z=some e→aD env.P 52 [.sl [gg e], .sl [qa e.1 (aT e.1) (ex e.1 e.2)]] (.bool true):=fun {e} he=>(an3 (PQ he)).2.2
 have FT:=H3 o1 o2 z
 have hax:ax (rD o1 o2 z)=if o1.isSome=false∨(o2.isSome=true∧z<0)then ax o2 else ax o1:=by unfold rD;split<;>rfl
 have SZ:o1.isSome=true→o2.isSome=true→aD env.P 54 [.ag (ax o2), .ag (ax o1)] (.int .i64 z):=fun s1 s2=>by
  obtain⟨e,he⟩:=Option.isSome_iff_exists.1 s1
  obtain⟨d,hd⟩:=Option.isSome_iff_exists.1 s2
  have:=(an2 hd).2.1.aoq (an1 he).2.1 cp2 (by decide) (by decide)
  rw [gY (qO (an2 hd).1.A).2 (qO (an1 he).1.A).2,hz e d he hd]at this
  rw [he,hd]
  exact this
 have r1:o1.isSome=true→aD env.P 52 [.sl [gx o1], .sl [ax o1]] (.bool true):=fun s1=>by
  obtain⟨e,he⟩:=Option.isSome_iff_exists.1 s1
  have:=(an1 he).2.2
  rw [he];exact this
 have r3:(o1.isSome || o2.isSome)=true→aD env.P 52 [.sl [gx (rD o1 o2 z)], .sl [ax (rD o1 o2 z)]] (.bool true):=fun s1=>by
  rw [←FT]at s1
  obtain⟨e,he⟩:=Option.isSome_iff_exists.1 s1
  have:=cO he
  rw [he];exact this
 rw [ae5]at g1 F0 F3
 rw [FT]at F3
 generalize rD o1 o2 z=o3 at *
 obtain⟨_,_,_,_,_,_,x1⟩:=ae4 o1
 obtain⟨_,_,_,_,_,_,x2⟩:=ae4 o2
 obtain⟨_,_,_,_,_,_,x3⟩:=ae4 o3
 obtain⟨_,_,_,_,_,y1⟩:=H0 o1
 obtain⟨_,_,_,_,_,y3⟩:=H0 o3
 obtain⟨_,_,_,_,_,y0⟩:=H0 none
 rw [x1]at q1 r1 hax SZ
 rw [x2]at q2 hax SZ
 rw [x3]at hax r3
 rw [y1]at g1 r1
 rw [y3]at F3 r3
 rw [y0]at F0
 rw [qZ]at hP
 exact EF hP B.toA hM1 hM2 q1 q2 (tH La.bz (by decide) (by decide)) (tH Lb.bz (by decide) (by decide)) g1 r1 F3 SZ hax r3 F0
end Go.Proofs.YtelhfbikiccfkaaGreat
