import Derived.Test.YtiobceocpabjdaaGreatEam
import Derived.Test.YtiobceocpabjdaaGreatEap
import Derived.Test.YtiobceocpabjdaaGreatEar
set_option linter.unusedSimpArgs false
set_option linter.unusedVariables false
namespace Go.Proofs.YtiobceocpabjdaaGreat
open Go Pm
open ZX hiding N W
def pk(l:List Int)(i:Nat):Int:=IntKind.wrap .i64 (nth l i+6)%13-6
theorem ai3(l:List Int)(i:Nat) : -6≤pk l i∧pk l i≤6:=by
 unfold pk
 have h1:=Int.emod_nonneg (IntKind.wrap .i64 (nth l i+6)) (show (13:Int)≠0 by decide)
 have h2:=Int.emod_lt_of_pos (IntKind.wrap .i64 (nth l i+6)) (show (0:Int)<13 by decide)
 omega
def YQ(l:List Int)(n:Nat):List Int:=(List.range n).map (pk l)
theorem adr(l:List Int)(n:Nat):YQ l (n+1)=YQ l n ++ [pk l n]:=by
 simp [YQ,List.range_succ]
theorem IX(l:List Int)(n:Nat):(YQ l n).length=n:=by simp [YQ]
theorem ads(l:List Int)(n:Nat):List.take n (YQ l n)=YQ l n:=List.take_of_length_le (by rw [IX];exact Nat.le_refl _)
theorem adt(v:Int) : -9223372036854775808≤IntKind.wrap .i64 v∧IntKind.wrap .i64 v<9223372036854775808:=by
 simp only [IntKind.wrap,IntKind.bits,IntKind.signed]
 have h1:=Int.emod_nonneg v (show (2^64:Int)≠0 by decide)
 have h2:=Int.emod_lt_of_pos v (show (0:Int)<2^64 by decide)
 simp
 split<;>omega
theorem xZ{l al:List Int}{k:Int}{f:ZX}{L:List (Rat × Rat)}{x C:List Int}{cc:List ZX}{n d:Int}{r:PV}(hl:l.length<9223372036854775808)(hk : -9223372036854775808≤k∧k<9223372036854775808)(Y6:aH env.P 97 [aJ aF (YQ l (min l.length 5))] (PI al))(ha:al.length<1000000)(hL:L.length<1000000)
  (hS:aH env.P 25 [.int .i64 k, .int .i64 l.length] (R2 n d)) (hR:aH env.P 41 [R2 n d] (.ag (ZB x cc n d n d))) (hRo:2≤al.length→aH env.P 101 [PI al] (aJ (qa f (cH f)) L))
  (hr:r=if al.length<2∨L = []then .ag (ZB x cc n d n d)else QA f (cH f) (nth L (k%L.length).toNat)):aH env.P 30 [aJ aF l, .int .i64 k] r:=by
 simp only [ZB]at *
 refine cA [(0,aJ aF l),(1, .int .i64 k)] Tryz.func30 ?_
 refine aA [0,1,4] ?_
 refine aA [0,1,4,5] ?_
 refine W.nil 5 5 3 1 (by simp) (by decide) (fun K hK=>?_)
 refine W.lw [0,1,4,5] hK ?_;clear hK K;simp
 refine aM [0,1,4,5,6] ?_
 refine W.block ?_
 refine W.a8 (fun m σ=>∃(i v4 ver:Nat) (rows:Pm.Rows) (clk:Nat),σ=⟨fa [(0,aJ aF l),(1, .int .i64 k),(4, .ptr 4 v4 0 0),(5, .own 5 ver 0 i),(6, .int .i64 i)],rows,clk⟩∧rows 4=some ⟨v4,49,10,[[.nil, .nil, .nil, .bool false, .nil, .bool false, .nil, .bool false, .nil, .bool false]]⟩∧rows 5=some ⟨ver,3,1,emap aF (YQ l i)⟩∧i+m=min l.length 5) (min l.length 5) ?_ ?_
 ·exact⟨_, .refl,0,_,_,_,_,rfl,by simp,by simp [YQ,emap],by omega⟩
 rintro m _ ⟨i,v4,ver,rows,clk,rfl,gN,dY,him⟩
 refine W.seq ?_
 have ZL:=IX l i
 by_cases hi:i<min l.length 5
 ·have kP:i<l.length:=by omega
  have hi5:(i:Int)<5:=by omega
  have zT:(i:Int)<l.length:=by omega
  have hw:=adt (nth l i+6)
  have hW:=mB (IntKind.wrap .i64 (nth l i+6)) 13 hw (by decide) (by decide)
  have hp:=ai3 l i
  have e1:IntKind.wrap .i64 (IntKind.wrap .i64 (nth l i+6)%13-6)=pk l i:=wrap_i64 (by show -9223372036854775808≤pk l i;omega) (by show pk l i<9223372036854775808;omega)
  refine W.sr ?_
  simp (disch:=omega) [gw,kP,hi5]
  refine bO [0,1,4,5,6,16] ?_
  refine bP ?_ ?_<;>intro h
  ·refine iT ?_
   refine W.b9 (fun K hK=>?_)
   simp (disch:=omega) [gw,kP]
   refine aD hW ?_
   simp (disch:=omega) [gw,dY,ZL,e1]
   refine W.lw [0,1,4,5,6] hK ?_;clear hK K;simp
   refine W.b9 (fun K hK=>?_);simp (disch:=omega) [gw]
   refine hK _ ⟨m-1,_,aC _ [0,1,4,5,6],by omega,i+1,_,_,_,_,rfl,by simp [gN],?_,by omega⟩
   rw [adr]
   simp
  ·simp at h
 ·have mQ:i=min l.length 5:=by omega
  subst mQ
  refine W.gK (fun σ=>∃(rows:Pm.Rows) (clk:Nat),σ=⟨fa [(0,aJ aF l),(1, .int .i64 k),(4, .ptr 4 v4 0 0),(5, .own 5 ver 0 (min l.length 5)),(6, .int .i64 ((min l.length 5:Nat):Int)),(16, .bool false)],rows,clk⟩∧rows 4=some ⟨v4,49,10,[[.nil, .nil, .nil, .bool false, .nil, .bool false, .nil, .bool false, .nil, .bool false]]⟩∧rows 5=some ⟨ver,3,1,emap aF (YQ l (min l.length 5))⟩) (fun K hK=>?_) ?_
  ·obtain⟨q,hq⟩:∃q:Nat,min l.length 5=q:=⟨_,rfl⟩
   rw [hq]at hi him dY ZL hK ⊢
   by_cases h1:q<l.length
   ·have h5:¬(q:Int)<5:=by omega
    have YU:(q:Int)<l.length:=by omega
    simp (disch:=omega) [gw,h1,YU,h5]
    exact hK _ _ (aC _ [0,1,4,5,6,16]) ⟨_,_,rfl,gN,dY⟩
   ·have YU:¬(q:Int)<l.length:=by omega
    simp (disch:=omega) [gw,h1,YU]
    exact hK _ _ (aC _ [0,1,4,5,6,16]) ⟨_,_,rfl,gN,dY⟩
  rintro _ ⟨rows,clk,rfl,gN,dY⟩
  refine bP ?_ ?_<;>intro h
  ·simp at h
  refine eJ ?_
  refine W.sr ?_
  simp (disch:=omega) [gw,dY,ads]
  refine cI [0,1,4,7] Y6 ?_
  refine W.seq ?_
  by_cases h2:al.length<2
  ·rw [if_pos (.inl h2)]at hr
   subst hr
   refine aA [0,1,4,7,33] ?_
   refine bP ?_ ?_<;>intro h
   ·refine j4 ?_
    refine b8 hS ?_
    refine aD hR ?_
    simp (disch:=omega) [gw,gN]
    refine bO [4] ?_
    exact cP
   ·exfalso;simp at h;omega
  ·have ayb:=hRo (by omega)
   refine aA [0,1,4,7,33] ?_
   refine bP ?_ ?_<;>intro h
   ·exfalso;simp at h;omega
   refine W.skip ?_
   refine aY [0,1,4,8] ayb ?_
   refine W.seq ?_
   by_cases h3:L = []
   ·rw [if_pos (.inr h3)]at hr
    subst hr h3
    refine aA [0,1,4,8,43] ?_
    refine bP ?_ ?_<;>intro h
    ·refine j4 ?_
     refine b8 hS ?_
     refine aD hR ?_
     simp (disch:=omega) [gw,gN]
     refine bO [4] ?_
     exact cP
    ·simp at h
   ·rw [if_neg (by simp [h2,h3])]at hr
    subst hr
    have hLp:=List.length_pos_iff.2 h3
    have hW:=mB k (L.length:Int) hk (by omega) (by omega)
    have E4:=Int.emod_nonneg k (show (L.length:Int)≠0 by omega)
    have hm2:=Int.emod_lt_of_pos k (show (0:Int)<L.length by omega)
    obtain⟨j,hj⟩:∃j:Nat,k%(L.length:Int)=j:=⟨(k%(L.length:Int)).toNat,by omega⟩
    have hjL:j<L.length:=by omega
    rw [hj]at hW ⊢
    rw [Int.toNat_natCast]
    refine aA [0,1,4,8,43] ?_
    refine bP ?_ ?_<;>intro h
    ·exfalso;simp at h;exact h3 h
    refine W.skip ?_
    refine j4 ?_
    refine aD hW ?_
    simp (disch:=omega) [gw,hjL,gN]
    refine bO [4] ?_
    exact cP
end Go.Proofs.YtiobceocpabjdaaGreat
namespace Go.Proofs.YtiobceocpabjdaaGreat
open Go Pm
theorem ai4(a b:ZX):CT [a,b]=gz a b:=by
 show gz (gz 0 a) b=_
 rw [L8,T1]
theorem as4(a:ZX):CT [a]=nf a:=by
 show gz 0 a=_
 rw [L8]
theorem amT{C n s:Nat}{a c:ZX}(ha:ZX.N a≤n)(hc:ZX.N c≤n)(h:(s+n+1)*2*4^n≤C):zO C n s (nf a) (nf c):=by
 unfold zO
 rw [vX,vX]
 have h1:∀k,k≤n→(s+n+1)*2*4^k≤C:=fun k hk=>Nat.le_trans (Nat.mul_le_mul_left _ (Nat.pow_le_pow_right (by decide) hk)) h
 split
 ·refine Nat.le_trans (Nat.mul_le_mul_right _ ?_) (h1 _ ha)
  omega
 ·exact h1 _ hc
structure Eu(s n:Nat):Prop where
 hn:n≤20
 hs:1≤s
 hC:(s+n+1)*2*4^n≤4500000000
theorem Eu.two{s n:Nat}(h:Eu s n){a c:ZX}(ba:BZ s n a)(bc:BZ s n c):aH env.P 142 [Po a.l,Po c.l] (Po (gz a c).l):=T6 ba bc (amT ba.N bc.N h.hC) h.hn (Nat.le_refl _)
theorem agM(s n:Nat):BZ s n 0:=⟨Nat.zero_le _,fun c hc=>by cases hc⟩
theorem Eu.amq{s n:Nat}(h:Eu s n){a c:ZX}(ba:BZ s n a)(bc:BZ s n c):aH env.P 194 [.sl [[Po a.l],[Po c.l]]] (Po (gz a c).l):=by
 have:=agp [a,c] (by simp) (fun i hi=>by
  match i,hi with
  | 0,_=>exact h.two (agM s n) ba
  | 1,_ =>
   have e:CT ([a,c].take 1)=nf a:=as4 a
   rw [e]
   have:=h.two ba.nf bc
   rw [show CT ([a,c].take (1+1))=gz (nf a) c from by rw [T1];exact ai4 a c]
   exact this)
 rw [ai4]at this
 exact this
end Go.Proofs.YtiobceocpabjdaaGreat
namespace Go.Proofs.YtiobceocpabjdaaGreat
open Go Pm
open ZX hiding N W
theorem agN{s n:Nat}{f:ZX}{p:Rat × Rat}(I:zA s n f)(hs:s≤100000)(n8:ZX.N f≤8)(hp:p∈rtl s n f):AN s n (uu s) f p∧AN s n (uu s) f (ex f p):=by
 obtain⟨a1,a2,a3,a4,a5,a6⟩:=I.ivs.mem _ hp
 obtain⟨_,_,b1,b2,b3⟩:=I.root hp
 have hb:=agJ I.nf (adp I.ch.bz)
 have h1:Ab p.1 (2^(zs f+1)):=by obtain⟨x,y⟩:=hb;exact⟨by grind,by grind⟩
 have h2:Ab p.2 (2^(zs f+1)):=by obtain⟨x,y⟩:=hb;exact⟨by grind,by grind⟩
 have hu:uu s≤30000000:=by unfold uu;omega
 refine⟨⟨I,hs,⟨I.S, .inr ⟨a4,a6⟩⟩,a1,a2,hu,n8,fun _=>h1,fun _=>h2⟩,⟨I,hs,b1,b2,b3,hu,n8,fun _=>?_,fun _=>?_⟩⟩
 ·unfold ex
  split
  ·exact h2
  ·exact h1
 ·unfold ex
  split<;>exact h2
theorem U7(t:Rat):Nf (nW t):=by
 have hd:=t.den_pos
 refine⟨ZX.aE.2 (by rw [C4];decide),?_,?_⟩
 ·rw [xV]
  unfold bL
  simp only [List.foldl_cons,List.foldl_nil,Nat.gcd_zero_left,Int.natAbs_neg,Int.natAbs_natCast]
  exact t.reduced
 ·rw [xV]
  show 0<nth [-t.num,(t.den:Int)] 1
  show(0:Int)<(t.den:Int)
  omega
theorem adu(t:Rat):uL (nW t) (bS (nW t)):=fun d _ h2=>by
 rw [ac9]at h2
 have hd:=t.den_pos
 have:=h2.nS (ZX.p9 (show (t.den:Int)≠0 by omega))
 rwa [ZX.N_K (show (t.den:Int)≠0 by omega)]at this
theorem adw{t:Rat}{s n:Nat}(sb:t.num.natAbs≤30∧((t.den:Int)).natAbs≤6)(hs:5≤s)(hn:2≤n)(h1:n≤20)(h2:n+1≤2^s)(h3:(qb s n+n+6)*4^n≤4500000000)(h4:s≤5000000):zA s n (nW t):=by
 have bz:BZ s n (nW t):=⟨by show ZX.N (nW t)≤_;rw [C4];exact hn,fun c hc=>by
  rw [xV]at hc
  simp only [List.mem_cons,List.not_mem_nil,or_false]at hc
  refine Nat.le_trans (mK (k:=5) ?_) hs
  rcases hc with rfl | rfl<;>omega⟩
 exact⟨⟨bz,h1,h2,h3⟩,by omega,U7 t,RD (U7 t) (adu t),h4⟩
theorem as5{s n:Nat}{f:ZX}{t:Rat}(I:zA s n f)(hs:s≤100000)(n8:ZX.N f≤8)(h0:e t f=0){u:Nat}(q:SQ u t)(hu:u≤30000000):AN s n u f (t,t)∧Ex f (t,t):=
 ⟨⟨I,hs,⟨I.S, .inl ⟨rfl,h0⟩⟩,q,q,hu,n8,fun h=>absurd h Rat.lt_irrefl,fun h=>absurd h Rat.lt_irrefl⟩,fun _=>rfl⟩
theorem MY(t:Rat):e t (nW t)=0:=by rw [amx];grind
theorem adx{l:List Int}{k:Int}(hl:l.length<9223372036854775808)(hk : -9223372036854775808≤k∧k<9223372036854775808):∃(f:ZX) (p:Rat × Rat),aH env.P 30 [aJ aF l, .int .i64 k] (QA f (cH f) p)∧AN 59 5 7000 f p∧Ex f p∧ZX.N f≤5∧BZ 49 5 f:=by
 obtain⟨c,hc⟩:∃c,c=YQ l (min l.length 5):=⟨_,rfl⟩
 have fF:c.length≤5:=by rw [hc,IX];omega
 have hcb:∀x∈c, -6≤x∧x≤6:=fun x hx=>by
  rw [hc]at hx
  simp only [YQ,List.mem_map]at hx
  obtain⟨i,_,rfl⟩:=hx
  exact ai3 l i
 have Y6:=HG c (by omega) (fun x hx=>by have:=hcb x hx;omega)
 rw [show aI c=(ZX.of c).l from rfl,hc]at Y6
 have ba:BZ 3 5 (ZX.of c):=acJ (Nat.le_trans (bU c) fF) fun x hx=>by have:=hcb x (l8 _ _ hx);omega
 have bx:∀y∈(ZX.of c).l,y.natAbs≤2^3:=fun y hy=>by have:=hcb y (l8 _ _ hy);omega
 rw [←hc]at Y6
 generalize ZX.of c=a at *
 have hS:=X7 k l.length hk (by omega)
 have q5:=amu k l.length
 have sb:=acO k l.length
 generalize sml k l.length=t at *
 rw [gR]at hS
 have It:=adw (s:=59) (n:=5) sb (by decide) (by decide) (by decide) (by decide) (by decide) (by decide)
 have hR:=EC (n:=t.num) (d:=t.den) (by omega) (by omega) (by have:=t.den_pos;omega) (xV t)
 rw [It.sq]at hR
 have amU:aH env.P 41 [R2 t.num t.den] (.ag (ZB (nW t).l (cH (nW t)) t.num t.den t.num t.den)):=by rw [xV];exact hR
 obtain⟨At,Et⟩:=as5 (u:=7000) It (by decide) (by rw [C4];decide) (MY t) (q5.mono (by decide)) (by decide)
 have bt:BZ 49 5 (nW t):=⟨by show ZX.N (nW t)≤_;rw [C4];decide,fun c hc=>by
  rw [xV]at hc
  simp only [List.mem_cons,List.not_mem_nil,or_false]at hc
  refine Nat.le_trans (mK (k:=5) ?_) (by decide)
  rcases hc with rfl | rfl<;>omega⟩
 have fin:∀ {r:PV},r = .ag (ZB (nW t).l (cH (nW t)) t.num t.den t.num t.den)→aH env.P 30 [aJ aF l, .int .i64 k] r → ∃(f:ZX) (p:Rat × Rat),aH env.P 30 [aJ aF l, .int .i64 k] (QA f (cH f) p)∧AN 59 5 7000 f p∧Ex f p∧ZX.N f≤5∧BZ 49 5 f:=fun {r} hr h=>⟨nW t,(t,t),by rw [hr]at h;exact h,At,Et,by rw [C4];decide,bt⟩
 have hNl:a.l.length=ZX.N a:=rfl
 have hal:a.l.length≤5:=ba.N
 by_cases h2:a.l.length<2
 ·refine fin rfl (xZ (f:=nW t) (L:=[]) (C:=[]) hl hk (hc▸Y6) (by omega) (by decide) hS amU (fun h=>absurd h (by omega)) ?_)
  rw [if_pos (.inl h2)]
 ·have h0:a≠0:=ZX.aE.2 (by omega)
  have La:=X9 ba
  have I:=amK La h0 (by decide) (by decide) (by decide)
  have hRo:=Q8 (wB La (by decide)) (uD La h0 (by decide) (by decide)) I I.s1
  have nN:ZX.N (sq a)≤5:=I.ch.bz.N
  have bs:BZ 49 5 (sq a):=⟨nN,fun x hx=>by
   have:=adl (l:=3) (n:=5) (lH h0) I.nf (y9 h0).2 (h:=3) (fun d hd=>by
    have b1:=(La.bz.nf).lt d hd
    omega) (by rw [vX];exact ba.N) (by decide) x hx
   exact cK (by decide) (Nat.lt_of_le_of_lt this (by decide))⟩
  have hlen:=U0 I
  generalize eB:rtl (qb 3 5) 5 (sq a)=L0 at *
  by_cases h3:L0 = []
  ·refine fin rfl (xZ (f:=sq a) (L:=L0.map (ex (sq a))) (C:=[]) hl hk (hc▸Y6) (by omega) (by rw [List.length_map];omega) hS amU (fun _=>hRo) ?_)
   rw [if_pos (.inr (by rw [h3];rfl))]
  ·have hW:=xZ (f:=sq a) (L:=L0.map (ex (sq a))) (C:=[]) hl hk (hc▸Y6) (by omega) (by rw [List.length_map];omega) hS amU (fun _=>hRo) rfl
   rw [if_neg (by rw [not_or];exact⟨h2,by simp [h3]⟩)]at hW
   have hLp:=List.length_pos_iff.2 h3
   have E4:=Int.emod_nonneg k (show (L0.length:Int)≠0 by omega)
   have hm2:=Int.emod_lt_of_pos k (show (0:Int)<L0.length by omega)
   have hj:(k%((L0.map (ex (sq a))).length:Int)).toNat<L0.length:=by rw [List.length_map];omega
   generalize (k%((L0.map (ex (sq a))).length:Int)).toNat=j at *
   have hn:nth (L0.map (ex (sq a))) j=ex (sq a) (nth L0 j):=by rw [c9 (by rw [List.length_map];exact hj),List.getElem_map,c9 hj]
   rw [hn]at hW
   have A:=(agN I (by decide) (by omega) (p:=nth L0 j) (by rw [eB];exact bI hj)).2
   exact⟨sq a,ex (sq a) (nth L0 j),hW,⟨A.I,A.hs,A.A,A.q1.mono (by decide),A.q2.mono (by decide),by decide,A.n8,A.b1,A.b2⟩,as3 _ _,nN,bs⟩
structure SzC(s n S k:Nat):Prop where
 h1:(qb (qb s n) n+n+6)*4^n≤4500000000
 h2:qb s n≤1000000
 hE:(max s (S+5*k)+max n k+1)*2*4^max n k≤4500000000
 hL:(qb (S+5*k) k+k+6)*4^k≤4500000000
 hk:1≤k
 h8:k≤8
 hS:k+1≤2^(S+5*k)
 hS2:S+5*k≤100000
theorem SzC.lay{s n S k:Nat}(z:SzC s n S k){q:ZX}(bq:BZ (S+5*k) k q):wR (S+5*k) k q:=⟨bq,by have:=z.h8;omega,z.hS,z.hL⟩
theorem SzC.s1{s n S k:Nat}(z:SzC s n S k):1≤S+5*k:=by have:=z.hk;omega
theorem SzC.eu{s n S k:Nat}(z:SzC s n S k)(hn:n≤20):Eu (max s (S+5*k)) (max n k):=⟨by have:=z.h8;omega,by have:=z.s1;omega,z.hE⟩
section
variable {s n u S k:Nat} {f:ZX} {p:Rat × Rat} (a:AN s n u f p) (z:SzC s n S k)
include a z
theorem AN.sgC{q:ZX}(bq:BZ (S+5*k) k q):SgC (S+5*k) k f q:=by
 have I:=a.I
 have L:=z.lay bq
 have E:=z.eu I.ch.hn
 refine⟨bq,z.hS2,by have:=z.h8;omega,by have:=bq.N;have:=z.h8;omega,E.amq (bq.mono (by omega) (by omega)) (I.ch.bz.mono (by omega) (by omega)),fun _=>⟨_,_,amS I q z.h1 (by have:=z.h2;omega),z.h2⟩,fun h0=>⟨_,_,L.ch h0 z.hk⟩,fun h0=>UK (CU L) (L.ch h0 z.hk) (y9 h0).1⟩
end
theorem AN.sg0{s n u:Nat}{f:ZX}{p:Rat × Rat}(a:AN s n u f p):sgU (iG f p) 0=0:=(show NL (iG f p) 0 0 from .inl ⟨rfl,DF (eH a.A)⟩).eq (eH a.A)
noncomputable def afU(U:Rat→Prop)(q:ZX):Int:=NK (sgU U) (ZX.N q) q
section
variable {s n u S k:Nat} {f:ZX} {p:Rat × Rat} (a:AN s n u f p) (z:SzC s n S k) {q:ZX} (bq:BZ S k q)
include a z bq
theorem AN.at:aH env.P 185 [Po q.l,GA f p] (.int .i64 (afU (iG f p) q)):=
 agH (sgU (iG f p)) a.sg0 bq (by have:=z.h8;omega) (by have:=z.hS2;omega) fun r s' zU br=>a.sg (a.sgC z (br.mono zU (Nat.le_refl _)))
end
theorem AN.af{s n u:Nat}{f:ZX}{p:Rat × Rat}(a:AN s n u f p){q:ZX}(h0:q≠0)(hN:ZX.N q≤20):Af (iG f p) q (afU (iG f p) q):=
 adk (eH a.A) (fun r hr=>amQ a.I.nf a.I.sq a.I.Y9 (by have:=a.I.ch.hn;have:=a.n8;omega) a.A r hr) _ q (Nat.le_refl _) hN h0
theorem ady{x:List Int}{c:List ZX}{an ad bn bd:Int}(hT:aH env.P 100 [PI x] (Po x))(h1:aH env.P 23 [R2 an ad] (T2 an ad))(h2:aH env.P 23 [R2 bn bd] (T2 bn bd)):aH env.P 29 [.ag (ZB x c an ad bn bd)] (.ag (G9 x an ad bn bd)):=by
 simp only [ZB,G9]
 refine cA [(0, .ag (ZB x c an ad bn bd))] Tryz.func29 ?_
 refine aA [1,2] ?_
 refine kB ?_
 refine b8 hT ?_
 refine b8 h1 ?_
 refine aD h2 ?_
 (try (refine bF (of_decide_eq_true (by kernel_rfl)) ?_));(try simp (maxSteps:=4000000) (disch:=omega) [gw]);(repeat rw [if_pos (by kernel_rfl)]);(try simp (maxSteps:=4000000) (disch:=omega) [gw])
 refine bO [2] ?_
 exact cP
theorem AN.toA{s n u:Nat}{f:ZX}{p:Rat × Rat}(a:AN s n u f p):aH env.P 29 [QA f (cH f) p] (GA f p):=by
 have hu:=a.hu
 have h1:=a.q1.tor (show u≤137438953472 by omega)
 have h2:=a.q2.tor (show u≤137438953472 by omega)
 rw [gR]at h1 h2
 exact ady (UI a.I.ch.bz (by have:=a.hs;omega) (by have:=a.I.ch.hn;omega)) h1 h2
end Go.Proofs.YtiobceocpabjdaaGreat
namespace Go.Proofs.YtiobceocpabjdaaGreat
open Go Pm
def FZ(X Y:List Int)(vx vy ia ib:Int):Bool:=if X = []then(if Y = []then decide (ia<ib)else decide (0<vy))else decide (0<vx)
set_option maxHeartbeats 2000000 in
theorem DI{a b:PT}{x X Y:List Int}{an ad bn bd vx vy:Int}(hX:X.length<1000000)(hY:Y.length<1000000)(h1:X ≠ []→aH env.P 185 [Po X, .ag (G9 x an ad bn bd)] (.int .i64 vx))(h2:Y ≠ []→aH env.P 185 [Po Y, .ag (G9 x an ad bn bd)] (.int .i64 vy)) :
  aH env.P 102 [.ag (G9 x an ad bn bd), .ag (gT a), .ag (gT b), .sl [[Po X],[Po Y]]] (.bool (FZ X Y vx vy a.id b.id)):=by
 simp only [G9,mZ]at *
 refine cA [(0, .ag (G9 x an ad bn bd)),(1, .ag (gT a)),(2, .ag (gT b)),(3, .sl [[Po X],[Po Y]])] Tryz.func102 ?_
 refine aA [3,4,5,6] ?_
 refine aM [4,5,6,11,12,13] ?_
 refine W.block ?_
 refine W.a8 (fun k σ=>∃(i v4 e4 v5 e5 v6 e6:Nat) (rows:Pm.Rows) (clk:Nat),σ=⟨fa [(4, .ptr 4 v4 0 0),(5, .ptr 5 v5 0 0),(6, .ptr 6 v6 0 0),(11, .sl [[Po X],[Po Y]]),(12, .int .i64 2),(13, .int .i64 i)],rows,clk⟩∧rows 4=some ⟨v4,e4,9,[G9 x an ad bn bd]⟩∧rows 5=some ⟨v5,e5,5,[gT a]⟩∧rows 6=some ⟨v6,e6,5,[gT b]⟩∧i≤2∧(0<i→X = [])∧(1<i→Y = [])∧i+k=2) 2 ?_ ?_
 ·exact⟨_, .refl,0,_,_,_,_,_,_,_,_,rfl,by simp;rfl,by simp;rfl,by simp;rfl,by omega,by omega,by omega,by omega⟩
 rintro k _ ⟨i,v4,e4,v5,e5,v6,e6,rows,clk,rfl,r4,r5,r6,hi,e1,e2,KX⟩
 simp only [G9,mZ]at r4 r5 r6
 refine cC [4,5,6,11,12,13,14] ?_
 refine bP ?_ ?_<;>intro h
 ·simp at h
  refine iT ?_
  have hc:i=0∨i=1:=by omega
  rcases hc with rfl | rfl
  ·refine aA [4,5,6,10,11,12,13] ?_
   refine aA [4,5,6,10,11,12,13,19] ?_
   refine bP ?_ ?_<;>intro h
   ·simp at h
    have hn:X ≠ []:=fun e=>by rw [e]at h;simp at h
    have h1:=h1 hn
    refine W.sr ?_
    simp (disch:=omega) [gw,r4]
    refine cI [8] h1 ?_
    refine W.ret ?_
    unfold FZ
    rw [if_neg hn]
    simp [go]
   ·simp at h
    have hn:X = []:=by simpa using h
    refine W.skip ?_
    refine W.b9 (fun K hK=>?_);simp (disch:=omega) [gw]
    refine hK _ ⟨1,_,aC _ [4,5,6,11,12,13],by omega,1,v4,e4,v5,e5,v6,e6,_,_,rfl,r4,r5,r6,by omega,fun _=>hn,by omega,by omega⟩
  ·have hn:=e1 (by omega)
   refine aA [4,5,6,10,11,12,13] ?_
   refine aA [4,5,6,10,11,12,13,19] ?_
   refine bP ?_ ?_<;>intro h
   ·simp at h
    have hm:Y ≠ []:=fun e=>by rw [e]at h;simp at h
    have h2:=h2 hm
    refine W.sr ?_
    simp (disch:=omega) [gw,r4]
    refine cI [8] h2 ?_
    refine W.ret ?_
    unfold FZ
    rw [if_pos hn,if_neg hm]
    simp [go]
   ·simp at h
    have hm:Y = []:=by simpa using h
    refine W.skip ?_
    refine W.b9 (fun K hK=>?_);simp (disch:=omega) [gw]
    refine hK _ ⟨0,_,aC _ [4,5,6,11,12,13],by omega,2,v4,e4,v5,e5,v6,e6,_,_,rfl,r4,r5,r6,by omega,fun _=>hn,fun _=>hm,by omega⟩
 ·simp at h
  have R4:i=2:=by omega
  subst R4
  refine eJ ?_
  refine W.sr ?_
  simp (disch:=omega) [gw,r5,r6]
  refine bO [8] ?_
  refine W.ret ?_
  unfold FZ
  rw [if_pos (e1 (by omega)),if_pos (e2 (by omega))]
  simp [go]
section
variable {a b:PT} {x X Y:List Int} {an ad bn bd:Int} {v:Bool}
theorem MZ(r1:aH env.P 103 [.ag a.c.cells, .ag b.c.cells] (Po X))(r2:aH env.P 104 [.ag a.c.cells, .ag b.c.cells] (Po Y))(h:aH env.P 102 [.ag (G9 x an ad bn bd), .ag (gT a), .ag (gT b), .sl [[Po X],[Po Y]]] (.bool v)):aH env.P 31 [.ag (gT a), .ag (gT b), .ag (G9 x an ad bn bd)] (.bool v):=by
 simp only [G9,mZ,RC.bQ]at *
 refine cA [(0, .ag (gT a)),(1, .ag (gT b)),(2, .ag (G9 x an ad bn bd))] Tryz.func31 ?_
 refine aA [3,4,5] ?_
 refine kB ?_
 refine b8 r1 ?_
 refine b8 r2 ?_
 refine cI [6] h ?_
 exact cP
theorem RK(r1:aH env.P 103 [.ag b.c.cells, .ag a.c.cells] (Po X))(r2:aH env.P 104 [.ag b.c.cells, .ag a.c.cells] (Po Y))(h:aH env.P 102 [.ag (G9 x an ad bn bd), .ag (gT a), .ag (gT b), .sl [[Po Y],[Po X]]] (.bool v)):aH env.P 32 [.ag (gT a), .ag (gT b), .ag (G9 x an ad bn bd)] (.bool v):=by
 simp only [G9,mZ,RC.bQ]at *
 refine cA [(0, .ag (gT a)),(1, .ag (gT b)),(2, .ag (G9 x an ad bn bd))] Tryz.func32 ?_
 refine aA [3,4,5] ?_
 refine kB ?_
 refine b8 r2 ?_
 refine b8 r1 ?_
 refine cI [6] h ?_
 exact cP
end
def ZC(p:PT):List PV:=[PP (qd p.c.nc.x p.c.nc.d),PP (qd p.c.nc.y p.c.nc.d),Po p.c.nc.x,Po p.c.nc.y, .bool (decide (p.c.nc.d<0)),aJ u32 (aU LL p.c.nc.d.natAbs), .int .i64 p.id]
@[simp] theorem U8{p:PT}:ZC p = [PP (qd p.c.nc.x p.c.nc.d),PP (qd p.c.nc.y p.c.nc.d),Po p.c.nc.x,Po p.c.nc.y, .bool (decide (p.c.nc.d<0)),aJ u32 (aU LL p.c.nc.d.natAbs), .int .i64 p.id]:=rfl
def M0(vx vy ia ib:Int):Bool:=if vx=0 then(if vy=0 then decide (ia<ib)else decide (0<vy))else decide (0<vx)
theorem RL{p:PT}(h:aH env.P 173 [.ag p.c.cells] (.ag p.c.nc.doc)):aH env.P 94 [.ag (gT p)] (.ag (ZC p)):=by
 simp only [mZ,U8,RC.bQ,CV.HQ]at *
 refine cA [(0, .ag (gT p))] Tryz.func94 ?_
 refine aA [1,2] ?_
 refine kB ?_
 refine cI [2] h ?_
 exact cP
def U9(cu:PT→RC)(p:PT):PT:=⟨cu p,p.id%1000⟩
def x6(O:List PT)(e:Int):Bool:=O.any fun q=>q.id==e
def pO(cu:PT→RC)(n:Nat)(O:List PT):List PT→List PT
 | []=>O
 | p::r=>if n≤O.length then O else pO cu n (if x6 O (p.id%1000)=true then O else O ++ [U9 cu p]) r
@[simp] theorem ai5{v e n:Nat}{l:List PT}:cX (some ⟨v,e,n,emap gT l⟩)=True:=b7 fun _=>rfl
@[simp] theorem ai6{v e n:Nat}{l:List PT}:cX (some ⟨v,e,n,emap ZC l⟩)=True:=b7 fun _=>rfl
@[simp] theorem amV{l:List PT}:bM 7 (emap ZC l)=True:=cN fun _=>rfl
theorem agP{cu:PT→RC}{n:Nat}{O:List PT}(h:n≤O.length):∀r,pO cu n O r=O
 | []=>rfl
 | p::r=>by unfold pO;rw [if_pos h]
theorem agQ{cu:PT→RC}{n:Nat}{O l:List PT}{i:Nat}(h:O.length<n)(hi:i<l.length):pO cu n O (l.drop i)=pO cu n (if x6 O ((nth l i).id%1000)=true then O else O ++ [U9 cu (nth l i)]) (l.drop (i+1)):=by
 rw [List.drop_eq_getElem_cons hi,←c9 hi]
 conv=>lhs;unfold pO
 rw [if_neg (by omega)]
theorem YR{O:List PT}{e:Int}{j:Nat}(h:j<O.length):x6 (O.take (j+1)) e=(x6 (O.take j) e || (nth O j).id==e):=by
 rw [List.take_succ_eq_append_getElem h,←c9 h]
 simp [x6]
theorem adz{O:List PT}{e:Int}:x6 (O.take O.length) e=x6 O e:=by rw [List.take_length]
theorem VA{cu:PT→RC}{n:Nat}{l:List PT}:∀(r O:List PT),(∀q∈r,q∈l)→O.length≤n→(∀q∈O,∃p∈l,q=U9 cu p)→(O.map PT.id).Nodup→(pO cu n O r).length≤n∧(∀q∈pO cu n O r,∃p∈l,q=U9 cu p)∧((pO cu n O r).map PT.id).Nodup
 | [],O,_,h1,h2,h3=>⟨h1,h2,h3⟩
 | p::r,O,h0,h1,h2,h3=>by
  unfold pO
  split
  ·exact⟨h1,h2,h3⟩
  ·rename_i hn
   refine VA r _ (fun q hq=>h0 q (by simp [hq])) ?_ ?_ ?_
   ·split
    ·exact h1
    ·simp;omega
   ·split
    ·exact h2
    ·intro q hq
     simp only [List.mem_append,List.mem_singleton]at hq
     rcases hq with hq | hq
     ·exact h2 q hq
     ·exact⟨p,h0 p (by simp),hq⟩
   ·split
    ·exact h3
    ·rename_i hp
     rw [List.map_append,List.nodup_append]
     refine⟨h3,by simp,?_⟩
     intro a ha b hb
     simp only [List.map_cons,List.map_nil,List.mem_singleton]at hb
     subst hb
     intro e
     apply hp
     simp only [List.mem_map]at ha
     obtain⟨q,hq,he⟩:=ha
     simp only [x6,List.any_eq_true]
     exact⟨q,hq,by simp [he,e,U9]⟩
theorem M3{c:Prop}[Decidable c]{f g:Pm.Rows}{j:Nat}:(if c then f else g) j=if c then f j else g j:=by split<;>rfl
set_option maxHeartbeats 2000000 in
theorem M4{l:List PT}{n:Nat}{cu:PT→RC}(hl:l.length<9223372036854775808)(hn:n=2∨n=3)(hC:∀p∈l,aH env.P 92 [.ag p.c.cells, .int .i64 3, .int .i64 1] (.ag (p.c.cut 3 1).cells))(h2:n=2 → ∀p,cu p=p.c.cut 3 1)(h3:n=3 → ∀p∈l,aH env.P 93 [.ag p.c.cells, .int .i64 999] (.ag (cu p).cells))(hF:∀p∈l,aH env.P 94 [.ag (gT (U9 cu p))] (.ag (ZC (U9 cu p))))(iA:∀p∈l, -9223372036854775808≤p.id∧p.id<9223372036854775808) :
  aH env.P 27 [aJ gT l, .int .i64 n] (.fG [aJ gT (pO cu n [] l),aJ ZC (pO cu n [] l)]):=by
 have hn3:n≤3:=by omega
 have hz:pO cu n [] (l.drop 0)=pO cu n [] l:=by rw [List.drop_zero]
 generalize pO cu n [] l=R at *
 refine cA [(0,aJ gT l),(1, .int .i64 n)] Tryz.func27 ?_
 refine aA [0,1] ?_
 refine aA [0,1,6] ?_
 refine aA [0,1,6,7] ?_
 refine W.nil 6 6 73 5 (by simp) (by decide) (fun K hK=>?_)
 refine W.lw [0,1,6,7] hK ?_;clear hK K;simp
 refine W.nil 7 7 155 7 (by simp) (by decide) (fun K hK=>?_)
 refine W.lw [0,1,6,7] hK ?_;clear hK K;simp
 refine aM [0,1,6,7,8] ?_
 refine W.block ?_
 refine W.a8 (fun k σ=>∃(O:List PT) (i v6 v7:Nat) (rows:Pm.Rows) (clk:Nat),σ=⟨fa [(0,aJ gT l),(1, .int .i64 n),(6, .own 6 v6 0 O.length),(7, .own 7 v7 0 O.length),(8, .int .i64 i)],rows,clk⟩∧rows 6=some ⟨v6,73,5,emap gT O⟩∧rows 7=some ⟨v7,155,7,emap ZC O⟩∧O.length≤n∧pO cu n O (l.drop i)=R∧i+k=l.length) l.length ?_ ?_
 ·exact⟨_, .refl,[],0,_,_,_,_,rfl,by simp [emap],by simp [emap],by simp,hz,by omega⟩
 rintro k _ ⟨O,i,v6,v7,rows,clk,rfl,kS,nZ,hO,hR,KX⟩
 have l6:(emap gT O).length=O.length:=by simp [emap]
 have l7:(emap ZC O).length=O.length:=by simp [emap]
 refine W.seq ?_
 by_cases hi:i<l.length
 ·by_cases hm:O.length<n
  ·have mQ:(i:Int)<l.length:=by omega
   have hm':(O.length:Int)<n:=by omega
   have hCi:=hC _ (bI hi)
   have hFi:=hF _ (bI hi)
   have h3i:n=3→_:=fun e=>h3 e _ (bI hi)
   have hdi:=iA _ (bI hi)
   have hWi:=mB (nth l i).id 1000 hdi (by decide) (by decide)
   have j3:R=pO cu n (if x6 O (U9 cu (nth l i)).id=true then O else O ++ [U9 cu (nth l i)]) (l.drop (i+1)):=by rw [←hR];exact agQ hm hi
   have h2i:n=2→cu (nth l i)=(nth l i).c.cut 3 1:=fun e=>h2 e _
   simp only [mZ,RC.bQ,U9]at hCi h3i
   refine W.sr ?_
   simp (disch:=omega) [gw,hi,hm,mQ,hm',kS]
   refine bO [0,1,6,7,8,21] ?_
   refine bP ?_ ?_<;>intro h
   ·refine W.skip ?_
    refine W.fM (fun σ=>∃(O':List PT) (v6 v7:Nat) (rows:Pm.Rows) (clk:Nat),σ=⟨fa [(0,aJ gT l),(1, .int .i64 n),(6, .own 6 v6 0 O'.length),(7, .own 7 v7 0 O'.length),(8, .int .i64 i)],rows,clk⟩∧rows 6=some ⟨v6,73,5,emap gT O'⟩∧rows 7=some ⟨v7,155,7,emap ZC O'⟩∧O'.length≤n∧pO cu n O' (l.drop (i+1))=R) ?_ ?_
    ·refine W.sd ?_
     simp (disch:=omega) [gw,hi]
     refine aD hCi ?_
     simp (disch:=omega) [gw,hi]
     refine b8 hWi ?_
     rw [if_pos (by kernel_rfl)]
     simp (disch:=omega) [gw]
     refine bO [0,1,6,7,8,9] ?_
     refine W.gD (fun σ=>∃(v9 e9:Nat) (rows:Pm.Rows) (clk:Nat),σ=⟨fa [(0,aJ gT l),(1, .int .i64 n),(6, .own 6 v6 0 O.length),(7, .own 7 v7 0 O.length),(8, .int .i64 i),(9, .ptr 9 v9 0 0)],rows,clk⟩∧rows 6=some ⟨v6,73,5,emap gT O⟩∧rows 7=some ⟨v7,155,7,emap ZC O⟩∧rows 9=some ⟨v9,e9,5,[gT (U9 cu (nth l i))]⟩) ?_ ?_
     ·refine aA [0,1,6,7,8,9,38] ?_
      refine bP ?_ ?_<;>intro h
      ·simp at h
       have e3:n=3:=by omega
       have h3i:=h3i e3
       refine W.b9 (fun K hK=>?_)
       simp (disch:=omega) [gw,hi]
       refine aD h3i ?_
       simp (disch:=omega) [gw,hi]
       exact hK _ ⟨_,aC _ [0,1,6,7,8,9],_,_,_,_,rfl,by simp [kS],by simp [nZ],by simp [U9];rfl⟩
      ·simp at h
       have e3:n=2:=by omega
       rw [←h2i e3]
       refine aA [0,1,6,7,8,9,47] ?_
       refine bP ?_ ?_<;>intro h
       ·simp at h
        omega
       ·simp at h
        refine W.skip ?_
        exact⟨_,aC _ [0,1,6,7,8,9],_,_,_,_,rfl,by simp [kS],by simp [nZ],by simp [U9];rfl⟩
     clear kS nZ rows clk
     rintro _ ⟨v9,e9,rows,clk,rfl,kS,nZ,tV⟩
     clear hCi h3i h2i hWi
     generalize U9 cu (nth l i)=q at *
     simp only [mZ,U8]at hFi tV
     refine aA [0,1,6,7,8,9,10] ?_
     refine W.seq ?_
     refine W.sr ?_
     simp (disch:=omega) [gw,kS]
     refine bO [0,1,6,7,8,9,10,56,57] ?_
     refine W.block ?_
     refine W.a8 (fun k σ=>∃(j:Nat),σ=⟨fa [(0,aJ gT l),(1, .int .i64 n),(6, .own 6 v6 0 O.length),(7, .own 7 v7 0 O.length),(8, .int .i64 i),(9, .ptr 9 v9 0 0),(10, .bool (x6 (O.take j) q.id)),(56, .int .i64 O.length),(57, .int .i64 j)],rows,clk⟩∧j+k=O.length) O.length ?_ ?_
     ·exact⟨_, .refl,0,rfl,by omega⟩
     rintro m _ ⟨j,rfl,hjm⟩
     refine cC [0,1,6,7,8,9,10,56,57,58] ?_
     refine bP ?_ ?_<;>intro h
     ·have hj:j<O.length:=by simp at h;omega
      have hs:=YR (e:=q.id) hj
      refine iT ?_
      refine aA [0,1,6,7,8,9,10,11,56,57] ?_
      cases hb:x6 (O.take j) q.id
      ·rw [hb,Bool.false_or]at hs
       refine W.BI (fun K hK=>?_)
       simp (disch:=omega) [gw,kS,tV,hj,l6]
       refine W.lw [0,1,6,7,8,9,10,56,57] hK ?_;clear hK K;simp
       refine W.b9 (fun K hK=>?_);simp (disch:=omega) [gw]
       refine hK _ ⟨m-1,_,aC _ [0,1,6,7,8,9,10,56,57],by omega,j+1,by rw [hs];rfl,by omega⟩
      ·rw [hb,Bool.true_or]at hs
       refine W.BI (fun K hK=>?_)
       simp (disch:=omega) [gw,kS,tV,hj,l6]
       refine W.lw [0,1,6,7,8,9,10,56,57] hK ?_;clear hK K;simp
       refine W.b9 (fun K hK=>?_);simp (disch:=omega) [gw]
       refine hK _ ⟨m-1,_,aC _ [0,1,6,7,8,9,10,56,57],by omega,j+1,by rw [hs];rfl,by omega⟩
     ·have hj:j=O.length:=by simp at h;omega
      subst hj
      rw [adz]
      refine eJ ?_
      refine aA [0,1,6,7,8,9,73] ?_
      refine bP ?_ ?_<;>intro h
      ·have hb:x6 O q.id=false:=by simpa using h
       rw [if_neg (by rw [hb];decide)]at j3
       refine W.BI (fun K hK=>?_)
       simp (disch:=omega) [gw,kS,nZ,tV,l6,l7,M3]
       refine aD hFi ?_
       simp (disch:=omega) [gw,kS,nZ,tV,l6,l7,M3]
       refine hK _ ⟨_,aC _ [0,1,6,7,8],O ++ [q],_,_,_,_,by simp;exact⟨rfl,rfl,rfl⟩,by simp [emap],by simp [emap],by simp;omega,j3.symm⟩
      ·have hb:x6 O q.id=true:=by simpa using h
       rw [if_pos hb]at j3
       refine W.skip ?_
       exact⟨_,aC _ [0,1,6,7,8],O,v6,v7,_,_,rfl,kS,nZ,hO,j3.symm⟩
    clear kS nZ hR rows clk
    rintro _ ⟨O',v6,v7,rows,clk,rfl,kS,nZ,hO',hR⟩
    refine W.b9 (fun K hK=>?_);simp (disch:=omega) [gw]
    refine hK _ ⟨k-1,_,aC _ [0,1,6,7,8],by omega,O',i+1,v6,v7,_,_,rfl,kS,nZ,hO',hR,by omega⟩
   ·simp at h
  ·have hm':¬(O.length:Int)<n:=by omega
   have mQ:(i:Int)<l.length:=by omega
   have hf:=agP (cu:=cu) (n:=n) (O:=O) (by omega) (l.drop i)
   rw [hf]at hR
   subst hR
   refine W.sr ?_
   simp (disch:=omega) [gw,hi,hm,mQ,hm',kS]
   refine bO [0,1,6,7,8,21] ?_
   refine bP ?_ ?_<;>intro h
   ·simp at h
   ·refine eJ ?_
    refine W.freeze 6 (by simp [kS]) (fun K hK=>?_)
    simp [kS]
    refine hK _ ?_;clear hK K
    refine W.freeze 7 (by simp [nZ]) (fun K hK=>?_)
    simp [nZ]
    refine hK _ ?_;clear hK K
    refine aA [4,5] ?_
    exact cP
 ·have mQ:¬(i:Int)<l.length:=by omega
  have hd:l.drop i = []:=List.drop_eq_nil_of_le (by omega)
  rw [hd]at hR
  change O=R at hR
  subst hR
  refine W.sr ?_
  simp (disch:=omega) [gw,hi,mQ,kS]
  refine bO [0,1,6,7,8,21] ?_
  refine bP ?_ ?_<;>intro h
  ·simp at h
  ·refine eJ ?_
   refine W.freeze 6 (by simp [kS]) (fun K hK=>?_)
   simp [kS]
   refine hK _ ?_;clear hK K
   refine W.freeze 7 (by simp [nZ]) (fun K hK=>?_)
   simp [nZ]
   refine hK _ ?_;clear hK K
   refine aA [4,5] ?_
   exact cP
end Go.Proofs.YtiobceocpabjdaaGreat
namespace Go.Proofs.YtiobceocpabjdaaGreat
open Go Pm
open ZX hiding N W
def XX(a b:PT):ZX:=⟨dA (aL b.c.nc.x a.c.nc.d) (aL a.c.nc.x b.c.nc.d),Cn.dA _ _⟩
def DN(a b:PT):ZX:=⟨dA (aL b.c.nc.y a.c.nc.d) (aL a.c.nc.y b.c.nc.d),Cn.dA _ _⟩
theorem VB{x y:List Int}{d e:Int}(hx:Bd 2 32 3 x)(hy:Bd 2 32 3 y)(hd:sz 2 d≤32)(he:sz 2 e≤32):Bd 2 65 3 (dA (aL x e) (aL y d)):=by
 rw [←af7]
 exact Bd.eV (by decide) (Bd.aL (by decide) hx he) (Bd.fW (Bd.aL (by decide) hy hd))
theorem fst_eq{X Y:List Int}{vx vy ia ib:Int}(hx:X = []↔vx=0)(hy:Y = []↔vy=0):FZ X Y vx vy ia ib=M0 vx vy ia ib:=by
 unfold FZ M0
 simp only [hx,hy]
section
variable {s n u:Nat} {f:ZX} {p:Rat × Rat} (A:AN s n u f p)
include A
theorem AN.af0{q:ZX}(hN:ZX.N q≤20):q.l = []↔afU (iG f p) q=0:=by
 constructor
 ·intro h
  have h0:q=0:=ZX.ext fun t=>by rw [h];rfl
  rw [h0]
  exact k9 A.sg0 _
 ·intro h
  by_cases h0:q=0
  ·rw [h0];rfl
  ·exact absurd h (A.af h0 hN).1
end
section
variable {a b:PT}
theorem bX(ka:a.c.Small 3 1)(kb:b.c.Small 3 1):BZ 65 3 (XX a b):=VB (LW kb).x2 (LW ka).x2 (LW kb).d2 (LW ka).d2
theorem bY(ka:a.c.Small 3 1)(kb:b.c.Small 3 1):BZ 65 3 (DN a b):=VB (LW kb).y2 (LW ka).y2 (LW kb).d2 (LW ka).d2
theorem rX(ka:a.c.Small 3 1)(kb:b.c.Small 3 1):aH env.P 103 [.ag a.c.cells, .ag b.c.cells] (Po (XX a b).l):=QB ka.ok kb.ok (by decide)
theorem rY(ka:a.c.Small 3 1)(kb:b.c.Small 3 1):aH env.P 104 [.ag a.c.cells, .ag b.c.cells] (Po (DN a b).l):=QC ka.ok kb.ok (by decide)
variable {s n u:Nat} {f:ZX} {p:Rat × Rat} (A:AN s n u f p) (z:SzC s n 65 3)
include A z
theorem pR(ka:a.c.Small 3 1)(kb:b.c.Small 3 1):aH env.P 31 [.ag (gT a), .ag (gT b),GA f p] (.bool (M0 (afU (iG f p) (XX a b)) (afU (iG f p) (DN a b)) a.id b.id)):=by
 have x:=bX ka kb
 have y:=bY ka kb
 have h1:=A.at z x
 have h2:=A.at z y
 have hx:=Nat.lt_of_le_of_lt x.N (show 3<1000000 by decide)
 have hy:=Nat.lt_of_le_of_lt y.N (show 3<1000000 by decide)
 have F:=DI (a:=a) (b:=b) hx hy (fun _=>h1) (fun _=>h2)
 rw [fst_eq (A.af0 (Nat.le_trans x.N (by decide))) (A.af0 (Nat.le_trans y.N (by decide)))]at F
 exact MZ (rX ka kb) (rY ka kb) F
theorem sN(ka:a.c.Small 3 1)(kb:b.c.Small 3 1):aH env.P 32 [.ag (gT a), .ag (gT b),GA f p] (.bool (M0 (afU (iG f p) (DN b a)) (afU (iG f p) (XX b a)) a.id b.id)):=by
 have x:=bX kb ka
 have y:=bY kb ka
 have h1:=A.at z x
 have h2:=A.at z y
 have hx:=Nat.lt_of_le_of_lt x.N (show 3<1000000 by decide)
 have hy:=Nat.lt_of_le_of_lt y.N (show 3<1000000 by decide)
 have F:=DI (a:=a) (b:=b) hy hx (fun _=>h2) (fun _=>h1)
 rw [fst_eq (A.af0 (Nat.le_trans y.N (by decide))) (A.af0 (Nat.le_trans x.N (by decide)))]at F
 exact RK (rX kb ka) (rY kb ka) F
variable (hx:Ex f p)
include hx
end
theorem M5:SzC 59 5 65 3:=⟨by decide,by decide,by decide,by decide,by decide,by decide,by decide,by decide⟩
theorem RM:qZ Tryz.prog 73 (fun ps=>∃p:PT,ps=gT p∧(p.In ∧ -9223372036854775808≤p.id∧p.id<9223372036854775808)):=
 (qZ.struct (fs:=[⟨ "Curve",71,0,true, "", "",0⟩,⟨ "Id",3,4,false, "", "", 80⟩]) (Rs:=[fun ps=>∃c:RC,ps=c.cells∧InP c.x∧InP c.y∧InL c.l,fun ps=>∃n:Int,ps = [.int .i64 n]∧(IntKind.min .i64)≤n∧n≤(IntKind.max .i64)]) (by kernel_rfl)
  ⟨rfl,XM,by kernel_rfl,qZ.int .i64 (by kernel_rfl),by show(_:Nat)=_;kernel_rfl⟩).mono fun ps h=>by
  simp only [WN]at h
  obtain⟨a,b,rfl,⟨c,rfl,hx,hy,hd⟩,a',b',rfl,⟨n,rfl,h2,h3⟩,rfl⟩:=h
  exact⟨⟨c,n⟩,rfl,⟨hx,hy,hd.wP,hd.len⟩,by simpa [IntKind.min,IntKind.signed,IntKind.bits]using h2,by simp [IntKind.max,IntKind.signed,IntKind.bits]at h3;show n<_;omega⟩
theorem M6:q9 Tryz.prog 62 (fun q=>∃l:List PT,q=aJ gT l∧(∀p∈l,p.In ∧ -9223372036854775808≤p.id∧p.id<9223372036854775808)∧l.length<9223372036854775808):=
 (q9.slice (e:=73) (by kernel_rfl) (by rw [show Tryz.prog.cellsOf 73=5 by kernel_rfl];decide) RM).mono fun q ⟨l,h1,h2,h3⟩=>by
  obtain⟨m,rfl,hm⟩:=maps (g:=gT) (Q:=fun p:PT=>p.In ∧ -9223372036854775808≤p.id∧p.id<9223372036854775808) (fun ps h=>h) h2
  exact⟨m,h1,hm,by rw [List.length_map]at h3;simp only [maxLen]at h3;omega⟩
def lit(M:Int)(e:Bool × List Int):Int:=if e.2 = []then 0 else if e.1=true then -(nth e.2 0%(M+1))else nth e.2 0%(M+1)
theorem IY{M:Int}(h0:0≤M)(e:Bool × List Int) : -M≤lit M e∧lit M e≤M:=by
 unfold lit
 have h1:=Int.emod_nonneg (nth e.2 0) (show M+1≠0 by omega)
 have h2:=Int.emod_lt_of_pos (nth e.2 0) (show 0<M+1 by omega)
 split
 ·omega
 ·split<;>omega
theorem agR:bE (bE fun q p=>Wk p q) [ie 0] [[.bool false, .nil]]:=⟨⟨.inl rfl, .inr ⟨rfl,rfl⟩,trivial⟩,trivial⟩
theorem uH{M:Int}(h0:0≤M)(hM:M≤1000000){s:Bool}{l:List Int}(hl:cM 4294967296 l)(hn:l.length<9223372036854775808)(hTo:aH env.P 16 [RI (lit M (s,l))] (I (lit M (s,l)))):aH env.P 172 [IV s l, .int .i64 M] (I (lit M (s,l))):=by
 have hb:=IY h0 (s,l)
 have Y6:=iF (lit M (s,l)) (by omega) (by omega)
 refine cA [(0,IV s l),(1, .int .i64 M)] Tryz.func172 ?_
 refine aA [1,2,4] ?_
 refine aM [1,2,4,9] ?_
 refine bP ?_ ?_<;>intro h
 ·have DK:l = []:=by simpa using h
  have e:lit M (s,l)=0:=by unfold lit;rw [if_pos DK]
  rw [e]
  refine aA [4] ?_
  refine W.row (id:=4) [ie 0] (by simp;try (first | exact rfl | exact⟨rfl,rfl⟩ | exact⟨rfl,rfl,rfl⟩)) agR ?_
  exact cP
 ·have DK:¬l = []:=by simpa using h
  have hp:=List.length_pos_iff.2 DK
  have e:lit M (s,l)=if s=true then -(nth l 0%(M+1))else nth l 0%(M+1):=by unfold lit;rw [if_neg DK]
  have h1:=Int.emod_nonneg (nth l 0) (show M+1≠0 by omega)
  have h2:=Int.emod_lt_of_pos (nth l 0) (show 0<M+1 by omega)
  have hq:=hl _ (bI hp)
  have hM1:M+1≠0:=by omega
  refine W.skip ?_
  refine W.sr ?_
  simp (disch:=omega) [gw,hp,hM1]
  refine bO [2,4,5] ?_
  generalize nth l 0%(M+1)=v at *
  refine W.gD (fun σ=>∃(v4 e4:Nat) (L4:List PV) (rows:Pm.Rows) (clk:Nat),σ=⟨fa [(4, .ptr 4 v4 0 0),(5, .int .i64 (lit M (s,l)))],rows,clk⟩∧rows 4=some ⟨v4,e4,2,[L4]⟩∧L4.length=2) ?_ ?_
  ·refine aA [4,5,20] ?_
   refine bP ?_ ?_<;>intro h
   ·rw [e,if_pos h]
    refine W.b9 (fun K hK=>?_);simp (disch:=omega) [gw]
    exact hK _ ⟨_,aC _ [4,5],_,_,_,_,_,rfl,by simp;exact⟨rfl,rfl⟩,rfl⟩
   ·rw [e,if_neg (by rw [h];decide)]
    refine W.skip ?_
    exact⟨_,aC _ [4,5],_,_,_,_,_,rfl,by simp;exact⟨rfl,rfl⟩,rfl⟩
  rintro _ ⟨v4,e4,L4,rows,clk,rfl,gN,RN⟩
  have d4:List.drop 2 L4 = []:=List.drop_eq_nil_of_le (by omega)
  refine j4 ?_
  refine b8 Y6 ?_
  refine aD hTo ?_
  simp (disch:=omega) [gw,gN,RN,d4]
  refine bO [4] ?_
  exact cP
def lits(M:Int)(x:RP):List Int:=(x.take 3).map (lit M)
theorem rQ(M:Int)(x:RP):(lits M x).length=min x.length 3:=by simp [lits];omega
theorem F0{M:Int}{x:RP}{i:Nat}(hi:i<x.length)(h3:i<3):(lits M x).take (i+1)=(lits M x).take i ++ [lit M (nth x i)]:=by
 have hl:i<(lits M x).length:=by rw [rQ];omega
 rw [List.take_succ_eq_append_getElem hl]
 congr 2
 simp [lits,c9 hi]
theorem M7(M:Int)(x:RP){i:Nat}(h:i=min x.length 3):(lits M x).take i=lits M x:=List.take_of_length_le (by rw [rQ];omega)
def RO(M:Int)(c:RC):RC:=⟨(lits M c.x).map iM,(lits M c.y).map iM,decide (lit 3 (c.s,c.l)<0),aU LL (lit 3 (c.s,c.l)).natAbs⟩
set_option maxHeartbeats 4000000 in
theorem M8{M:Int}{c:RC}(hx:∀i,i<c.x.length→aH env.P 172 [IV (nth c.x i).1 (nth c.x i).2, .int .i64 M] (I (lit M (nth c.x i))))(hy:∀i,i<c.y.length→aH env.P 172 [IV (nth c.y i).1 (nth c.y i).2, .int .i64 M] (I (lit M (nth c.y i))))(hd:aH env.P 172 [IV c.s c.l, .int .i64 3] (I (lit 3 (c.s,c.l))))
  (lx:c.x.length<9223372036854775808) (ly:c.y.length<9223372036854775808):aH env.P 93 [.ag c.cells, .int .i64 M] (.ag (RO M c).cells):=by
 have ex:(RO M c).cells = [Po (lits M c.x),Po (lits M c.y), .bool (decide (lit 3 (c.s,c.l)<0)),us (aU LL (lit 3 (c.s,c.l)).natAbs)]:=by
  rw [eT,eT];rfl
 rw [ex]
 clear ex
 have xt:∀i,i<c.x.length→i<3→(lits M c.x).take (i+1)=(lits M c.x).take i ++ [lit M (nth c.x i)]:=fun i h h3=>F0 h h3
 have yt:∀i,i<c.y.length→i<3→(lits M c.y).take (i+1)=(lits M c.y).take i ++ [lit M (nth c.y i)]:=fun i h h3=>F0 h h3
 have xl:=rQ M c.x
 have yl:=rQ M c.y
 have xa:∀i,i=min c.x.length 3→(lits M c.x).take i=lits M c.x:=fun i h=>M7 M c.x h
 have ya:∀i,i=min c.y.length 3→(lits M c.y).take i=lits M c.y:=fun i h=>M7 M c.y h
 generalize lits M c.x=X at *
 generalize lits M c.y=Y at *
 generalize lit 3 (c.s,c.l)=D at *
 simp only [RC.bQ]
 refine cA [(0, .ag [Pg c.x,Pg c.y, .bool c.s,aJ u32 c.l]),(1, .int .i64 M)] Tryz.func93 ?_
 refine aA [1,2,4] ?_
 refine aY [1,2,4,5] hd ?_
 refine W.gD (fun σ=>∃(v2 e2 v4 e4 v5 e5:Nat) (L4:List PV) (rows:Pm.Rows) (clk:Nat),σ=⟨fa [(1, .int .i64 M),(2, .ptr 2 v2 0 0),(4, .ptr 4 v4 0 0),(5, .ptr 5 v5 0 0)],rows,clk⟩∧rows 2=some ⟨v2,e2,4,[[Pg c.x,Pg c.y, .bool c.s,aJ u32 c.l]]⟩∧rows 4=some ⟨v4,e4,4,[L4]⟩∧L4.length=4∧rows 5=some ⟨v5,e5,4,[[Po X, .nil, .bool (decide (D<0)),us (aU LL D.natAbs)]]⟩) ?_ ?_
 ·refine aA [1,2,4,5,6] ?_
  refine W.block ?_
  refine W.a8 (fun k σ=>∃(i v2 e2 v4 e4 v5 e5 ver:Nat) (L4:List PV) (cell:PV) (rows:Pm.Rows) (clk:Nat),σ=⟨fa [(1, .int .i64 M),(2, .ptr 2 v2 0 0),(4, .ptr 4 v4 0 0),(5, .ptr 5 v5 0 0),(6, .int .i64 i)],rows,clk⟩∧rows 2=some ⟨v2,e2,4,[[Pg c.x,Pg c.y, .bool c.s,aJ u32 c.l]]⟩∧rows 4=some ⟨v4,e4,4,[L4]⟩∧L4.length=4∧rows 5=some ⟨v5,e5,4,[[cell, .nil, .bool (decide (D<0)),us (aU LL D.natAbs)]]⟩∧((i=0∧cell = .nil)∨(0<i∧cell = .own 33 ver 0 i∧rows 33=some ⟨ver,38,2,emap ie (X.take i)⟩))∧i+k=min c.x.length 3) (min c.x.length 3) ?_ ?_
  ·exact⟨_, .refl,0,_,_,_,_,_,_,0,[.nil, .nil, .bool false, .nil], .nil,_,_,rfl,by simp;rfl,by simp;rfl,rfl,by simp;rfl, .inl ⟨rfl,rfl⟩,by omega⟩
  rintro k _ ⟨i,v2,e2,v4,e4,v5,e5,ver,L4,cell,rows,clk,rfl,cR,gN,RN,dY,pT,KX⟩
  refine W.seq ?_
  by_cases hi:i<min c.x.length 3
  ·have kP:i<c.x.length:=by omega
   have hi3:(i:Int)<3:=by omega
   have zT:(i:Int)<c.x.length:=by omega
   have f1:=hx i kP
   have DW:=xt i kP (by omega)
   refine W.sr ?_
   simp (disch:=omega) [gw,cR,kP,zT,hi3]
   refine bO [1,2,4,5,6,20] ?_
   refine bP ?_ ?_<;>intro h
   ·refine iT ?_
    rcases pT with ⟨rfl,rfl⟩ | ⟨h0,rfl,kO⟩
    ·refine W.BI (fun K hK=>?_)
     simp (disch:=omega) [gw,cR,dY,kP]
     refine aD f1 ?_
     simp (disch:=omega) [gw,cR,dY,kP]
     (try (refine bF (of_decide_eq_true (by kernel_rfl)) ?_));(try simp (maxSteps:=4000000) (disch:=omega) [gw,cR,dY,kP]);(repeat rw [if_pos (by kernel_rfl)]);(try simp (maxSteps:=4000000) (disch:=omega) [gw,cR,dY,kP])
     (try (refine bF (of_decide_eq_true (by kernel_rfl)) ?_));(try simp (maxSteps:=4000000) (disch:=omega) [gw,cR,dY,kP]);(repeat rw [if_pos (by kernel_rfl)]);(try simp (maxSteps:=4000000) (disch:=omega) [gw,cR,dY,kP])
     (try (refine bF (of_decide_eq_true (by kernel_rfl)) ?_));(try simp (maxSteps:=4000000) (disch:=omega) [gw,cR,dY,kP]);(repeat rw [if_pos (by kernel_rfl)]);(try simp (maxSteps:=4000000) (disch:=omega) [gw,cR,dY,kP])
     refine W.lw [1,2,4,5,6] hK ?_;clear hK K;simp
     refine W.b9 (fun K hK=>?_);simp (disch:=omega) [gw]
     refine hK _ ⟨k-1,_,aC _ [1,2,4,5,6],by omega,1,v2,e2,v4,e4,v5,e5,_,L4,_,_,_,rfl,by simp [cR],by simp [gN],RN,by simp;rfl, .inr ⟨by decide,rfl,by simp [DW,ie];try exact rfl⟩,by omega⟩
    ·have hle:(emap ie (X.take i)).length=i:=by simp [emap,xl];omega
     refine W.BI (fun K hK=>?_)
     simp (disch:=omega) [gw,cR,dY,kP,kO,hle]
     refine aD f1 ?_
     simp (disch:=omega) [gw,cR,dY,kP,kO,hle]
     (try (refine bF (of_decide_eq_true (by kernel_rfl)) ?_));(try simp (maxSteps:=4000000) (disch:=omega) [gw,cR,dY,kP,kO,hle]);(repeat rw [if_pos (by kernel_rfl)]);(try simp (maxSteps:=4000000) (disch:=omega) [gw,cR,dY,kP,kO,hle])
     (try (refine bF (of_decide_eq_true (by kernel_rfl)) ?_));(try simp (maxSteps:=4000000) (disch:=omega) [gw,cR,dY,kP,kO,hle]);(repeat rw [if_pos (by kernel_rfl)]);(try simp (maxSteps:=4000000) (disch:=omega) [gw,cR,dY,kP,kO,hle])
     (try (refine bF (of_decide_eq_true (by kernel_rfl)) ?_));(try simp (maxSteps:=4000000) (disch:=omega) [gw,cR,dY,kP,kO,hle]);(repeat rw [if_pos (by kernel_rfl)]);(try simp (maxSteps:=4000000) (disch:=omega) [gw,cR,dY,kP,kO,hle])
     refine W.lw [1,2,4,5,6] hK ?_;clear hK K;simp
     refine W.b9 (fun K hK=>?_);simp (disch:=omega) [gw]
     refine hK _ ⟨k-1,_,aC _ [1,2,4,5,6],by omega,i+1,v2,e2,v4,e4,v5,e5,_,L4,_,_,_,rfl,by simp [cR],by simp [gN],RN,by simp;rfl, .inr ⟨by omega,rfl,by simp [DW,ie,emap];try exact rfl⟩,by omega⟩
   ·simp at h
  ·have hm:i=min c.x.length 3:=by omega
   refine W.gK (fun σ=>σ=⟨fa [(1, .int .i64 M),(2, .ptr 2 v2 0 0),(4, .ptr 4 v4 0 0),(5, .ptr 5 v5 0 0),(6, .int .i64 i),(20, .bool false)],rows,clk⟩) (fun K hK=>?_) ?_
   ·by_cases kP:i<c.x.length
    ·have zT:(i:Int)<c.x.length:=by omega
     have hi3:¬(i:Int)<3:=by omega
     simp (disch:=omega) [gw,cR,kP,zT,hi3]
     exact hK _ _ (aC _ [1,2,4,5,6,20]) rfl
    ·have zT:¬(i:Int)<c.x.length:=by omega
     simp (disch:=omega) [gw,cR,kP,zT]
     exact hK _ _ (aC _ [1,2,4,5,6,20]) rfl
   rintro _ rfl
   refine bP ?_ ?_<;>intro h
   ·simp at h
   rcases pT with ⟨hi0,rfl⟩ | ⟨h0,rfl,kO⟩
   ·have hX0:X = []:=List.eq_nil_of_length_eq_zero (by omega)
    refine W.row (id:=5) [[Po X, .nil, .bool (decide (D<0)),us (aU LL D.natAbs)]] dY ⟨⟨.inr ⟨rfl,by rw [hX0];rfl⟩, .inl rfl, .inl rfl, .inl rfl,trivial⟩,trivial⟩ ?_
    refine eJ ?_
    exact⟨_,aC _ [1,2,4,5],v2,e2,v4,e4,v5,e5,L4,_,_,rfl,by simp [cR],by simp [gN],RN,by simp⟩
   ·rw [xa i hm]at kO
    refine W.zV 33 (by rw [kO];simp) (fun K hK=>?_)
    simp [kO]
    refine hK _ ?_
    have amX:sP rows 33 5=some ⟨v5,e5,4,[[Po X, .nil, .bool (decide (D<0)),us (aU LL D.natAbs)]]⟩:=by
     simp [dY,kO,hm,←xl]
    have amY:sP rows 33 2=some ⟨v2,e2,4,[[Pg c.x,Pg c.y, .bool c.s,aJ u32 c.l]]⟩:=by simp [cR]
    have RQ:∃L,sP rows 33 4=some ⟨v4,e4,4,[L]⟩∧L.length=4:=by simp [gN,RN]
    obtain⟨L4',RQ,amZ⟩:=RQ
    refine eJ ?_
    exact⟨_,aC _ [1,2,4,5],v2,e2,v4,e4,v5,e5,L4',_,_,rfl,amY,RQ,amZ,amX⟩
 rintro _ ⟨v2,e2,v4,e4,v5,e5,L4,rows,clk,rfl,cR,gN,RN,dY⟩
 refine W.gD (fun σ=>∃(v2 e2 v4 e4 v5 e5:Nat) (L4:List PV) (rows:Pm.Rows) (clk:Nat),σ=⟨fa [(1, .int .i64 M),(2, .ptr 2 v2 0 0),(4, .ptr 4 v4 0 0),(5, .ptr 5 v5 0 0)],rows,clk⟩∧rows 2=some ⟨v2,e2,4,[[Pg c.x,Pg c.y, .bool c.s,aJ u32 c.l]]⟩∧rows 4=some ⟨v4,e4,4,[L4]⟩∧L4.length=4∧rows 5=some ⟨v5,e5,4,[[Po X,Po Y, .bool (decide (D<0)),us (aU LL D.natAbs)]]⟩) ?_ ?_
 ·refine aA [1,2,4,5,7] ?_
  refine W.block ?_
  refine W.a8 (fun k σ=>∃(i v2 e2 v4 e4 v5 e5 ver:Nat) (L4:List PV) (cell:PV) (rows:Pm.Rows) (clk:Nat),σ=⟨fa [(1, .int .i64 M),(2, .ptr 2 v2 0 0),(4, .ptr 4 v4 0 0),(5, .ptr 5 v5 0 0),(7, .int .i64 i)],rows,clk⟩∧rows 2=some ⟨v2,e2,4,[[Pg c.x,Pg c.y, .bool c.s,aJ u32 c.l]]⟩∧rows 4=some ⟨v4,e4,4,[L4]⟩∧L4.length=4∧rows 5=some ⟨v5,e5,4,[[Po X,cell, .bool (decide (D<0)),us (aU LL D.natAbs)]]⟩∧((i=0∧cell = .nil)∨(0<i∧cell = .own 56 ver 0 i∧rows 56=some ⟨ver,38,2,emap ie (Y.take i)⟩))∧i+k=min c.y.length 3) (min c.y.length 3) ?_ ?_
  ·exact⟨_, .refl,0,v2,e2,v4,e4,v5,e5,0,L4, .nil,_,_,rfl,cR,gN,RN,dY, .inl ⟨rfl,rfl⟩,by omega⟩
  rintro k _ ⟨i,v2,e2,v4,e4,v5,e5,ver,L4,cell,rows,clk,rfl,cR,gN,RN,dY,pT,KX⟩
  refine W.seq ?_
  by_cases hi:i<min c.y.length 3
  ·have kP:i<c.y.length:=by omega
   have hi3:(i:Int)<3:=by omega
   have zT:(i:Int)<c.y.length:=by omega
   have f1:=hy i kP
   have DW:=yt i kP (by omega)
   refine W.sr ?_
   simp (disch:=omega) [gw,cR,kP,zT,hi3]
   refine bO [1,2,4,5,7,43] ?_
   refine bP ?_ ?_<;>intro h
   ·refine iT ?_
    rcases pT with ⟨rfl,rfl⟩ | ⟨h0,rfl,kO⟩
    ·refine W.BI (fun K hK=>?_)
     simp (disch:=omega) [gw,cR,dY,kP]
     refine aD f1 ?_
     simp (disch:=omega) [gw,cR,dY,kP]
     (try (refine bF (of_decide_eq_true (by kernel_rfl)) ?_));(try simp (maxSteps:=4000000) (disch:=omega) [gw,cR,dY,kP]);(repeat rw [if_pos (by kernel_rfl)]);(try simp (maxSteps:=4000000) (disch:=omega) [gw,cR,dY,kP])
     (try (refine bF (of_decide_eq_true (by kernel_rfl)) ?_));(try simp (maxSteps:=4000000) (disch:=omega) [gw,cR,dY,kP]);(repeat rw [if_pos (by kernel_rfl)]);(try simp (maxSteps:=4000000) (disch:=omega) [gw,cR,dY,kP])
     (try (refine bF (of_decide_eq_true (by kernel_rfl)) ?_));(try simp (maxSteps:=4000000) (disch:=omega) [gw,cR,dY,kP]);(repeat rw [if_pos (by kernel_rfl)]);(try simp (maxSteps:=4000000) (disch:=omega) [gw,cR,dY,kP])
     refine W.lw [1,2,4,5,7] hK ?_;clear hK K;simp
     refine W.b9 (fun K hK=>?_);simp (disch:=omega) [gw]
     refine hK _ ⟨k-1,_,aC _ [1,2,4,5,7],by omega,1,v2,e2,v4,e4,v5,e5,_,L4,_,_,_,rfl,by simp [cR],by simp [gN],RN,by simp;rfl, .inr ⟨by decide,rfl,by simp [DW,ie];try exact rfl⟩,by omega⟩
    ·have hle:(emap ie (Y.take i)).length=i:=by simp [emap,yl];omega
     refine W.BI (fun K hK=>?_)
     simp (disch:=omega) [gw,cR,dY,kP,kO,hle]
     refine aD f1 ?_
     simp (disch:=omega) [gw,cR,dY,kP,kO,hle]
     (try (refine bF (of_decide_eq_true (by kernel_rfl)) ?_));(try simp (maxSteps:=4000000) (disch:=omega) [gw,cR,dY,kP,kO,hle]);(repeat rw [if_pos (by kernel_rfl)]);(try simp (maxSteps:=4000000) (disch:=omega) [gw,cR,dY,kP,kO,hle])
     (try (refine bF (of_decide_eq_true (by kernel_rfl)) ?_));(try simp (maxSteps:=4000000) (disch:=omega) [gw,cR,dY,kP,kO,hle]);(repeat rw [if_pos (by kernel_rfl)]);(try simp (maxSteps:=4000000) (disch:=omega) [gw,cR,dY,kP,kO,hle])
     (try (refine bF (of_decide_eq_true (by kernel_rfl)) ?_));(try simp (maxSteps:=4000000) (disch:=omega) [gw,cR,dY,kP,kO,hle]);(repeat rw [if_pos (by kernel_rfl)]);(try simp (maxSteps:=4000000) (disch:=omega) [gw,cR,dY,kP,kO,hle])
     refine W.lw [1,2,4,5,7] hK ?_;clear hK K;simp
     refine W.b9 (fun K hK=>?_);simp (disch:=omega) [gw]
     refine hK _ ⟨k-1,_,aC _ [1,2,4,5,7],by omega,i+1,v2,e2,v4,e4,v5,e5,_,L4,_,_,_,rfl,by simp [cR],by simp [gN],RN,by simp;rfl, .inr ⟨by omega,rfl,by simp [DW,ie,emap];try exact rfl⟩,by omega⟩
   ·simp at h
  ·have hm:i=min c.y.length 3:=by omega
   refine W.gK (fun σ=>σ=⟨fa [(1, .int .i64 M),(2, .ptr 2 v2 0 0),(4, .ptr 4 v4 0 0),(5, .ptr 5 v5 0 0),(7, .int .i64 i),(43, .bool false)],rows,clk⟩) (fun K hK=>?_) ?_
   ·by_cases kP:i<c.y.length
    ·have zT:(i:Int)<c.y.length:=by omega
     have hi3:¬(i:Int)<3:=by omega
     simp (disch:=omega) [gw,cR,kP,zT,hi3]
     exact hK _ _ (aC _ [1,2,4,5,7,43]) rfl
    ·have zT:¬(i:Int)<c.y.length:=by omega
     simp (disch:=omega) [gw,cR,kP,zT]
     exact hK _ _ (aC _ [1,2,4,5,7,43]) rfl
   rintro _ rfl
   refine bP ?_ ?_<;>intro h
   ·simp at h
   rcases pT with ⟨hi0,rfl⟩ | ⟨h0,rfl,kO⟩
   ·have hX0:Y = []:=List.eq_nil_of_length_eq_zero (by omega)
    refine W.row (id:=5) [[Po X,Po Y, .bool (decide (D<0)),us (aU LL D.natAbs)]] dY ⟨⟨.inl rfl, .inr ⟨rfl,by rw [hX0];rfl⟩, .inl rfl, .inl rfl,trivial⟩,trivial⟩ ?_
    refine eJ ?_
    exact⟨_,aC _ [1,2,4,5],v2,e2,v4,e4,v5,e5,L4,_,_,rfl,by simp [cR],by simp [gN],RN,by simp⟩
   ·rw [ya i hm]at kO
    refine W.zV 56 (by rw [kO];simp) (fun K hK=>?_)
    simp [kO]
    refine hK _ ?_
    have amX:sP rows 56 5=some ⟨v5,e5,4,[[Po X,Po Y, .bool (decide (D<0)),us (aU LL D.natAbs)]]⟩:=by
     simp [dY,kO,hm,←yl]
    have amY:sP rows 56 2=some ⟨v2,e2,4,[[Pg c.x,Pg c.y, .bool c.s,aJ u32 c.l]]⟩:=by simp [cR]
    have RQ:∃L,sP rows 56 4=some ⟨v4,e4,4,[L]⟩∧L.length=4:=by simp [gN,RN]
    obtain⟨L4',RQ,amZ⟩:=RQ
    refine eJ ?_
    exact⟨_,aC _ [1,2,4,5],v2,e2,v4,e4,v5,e5,L4',_,_,rfl,amY,RQ,amZ,amX⟩
 rintro _ ⟨v2,e2,v4,e4,v5,e5,L4,rows,clk,rfl,cR,gN,RN,dY⟩
 have d4:List.drop 4 L4 = []:=List.drop_eq_nil_of_le (by omega)
 refine W.sr ?_
 simp (disch:=omega) [gw,dY,gN,RN,d4]
 refine bO [4] ?_
 exact cP
theorem M9{s n u:Nat}{f:ZX}{p:Rat × Rat}(A:AN s n u f p):∀L:List ZX,(∀q∈L,ZX.N q≤20) → ∃t,Up (iG f p) t ∧ ∀x,Up (iG f p) x→x≤t → ∀q∈L,afU (iG f p) q=bT (e x q)
 | [],_=>by
  obtain⟨s,hs⟩:=(eH A.A).hi
  exact⟨s+1,⟨s,by grind,hs⟩,fun _ _ _ q hq=>by cases hq⟩
 | q::L,h=>by
  obtain⟨t,ht,hL⟩:=M9 A L fun q hq=>h q (by simp [hq])
  by_cases h0:q=0
  ·refine⟨t,ht,fun x hx hxt r hr=>?_⟩
   rcases List.mem_cons.1 hr with rfl | hr
   ·have z:afU (iG f p) 0=0:=k9 A.sg0 _
    rw [h0,z,show e x 0=0 from rfl];exact fS.symm
   ·exact hL x hx hxt r hr
  ·obtain⟨_,t',ht',h'⟩:=A.af h0 (h q (by simp))
   by_cases hle:t≤t'
   ·refine⟨t,ht,fun x hx hxt r hr=>?_⟩
    rcases List.mem_cons.1 hr with rfl | hr
    ·exact(h' x hx (by grind)).symm
    ·exact hL x hx hxt r hr
   ·refine⟨t',ht',fun x hx hxt r hr=>?_⟩
    rcases List.mem_cons.1 hr with rfl | hr
    ·exact(h' x hx hxt).symm
    ·exact hL x hx (by grind) r hr
theorem RS{x y:Rat}{i j:Int}:M0 (bT x) (bT y) i j=true↔(0<x∨(x=0∧(0<y∨(y=0∧i<j)))):=by
 unfold M0
 rcases bZ x with ⟨h,e⟩ | ⟨h,e⟩ | ⟨h,e⟩<;>rw [e]
 ·simp;grind
 ·rcases bZ y with ⟨h',e'⟩ | ⟨h',e'⟩ | ⟨h',e'⟩<;>rw [e']<;>simp<;>grind
 ·simp;grind
theorem RU(x:Rat):x<0∨x=0∨0<x:=by
 rcases bZ x with h | h | h
 ·exact .inl h.1
 ·exact .inr (.inl h.1)
 ·exact .inr (.inr h.1)
theorem tri{a b c p q r:Rat}(ha:0<a)(hb:0<b)(hc:0<c)(h:a*p=b*q+c*r):(0<q→0≤r→0<p)∧(0≤q→0<r→0<p)∧(q=0→r=0→p=0)∧(q<0→r≤0→p<0)∧(q≤0→r<0→p<0):=by
 have pos:0<a*p→0<p:=fun hp=>by
  rcases RU p with h1 | h1 | h1
  ·have:=Rat.mul_pos ha (show 0 < -p by grind);grind
  ·rw [h1]at hp;grind
  ·exact h1
 have neg:a*p<0→p<0:=fun hp=>by
  rcases RU p with h1 | h1 | h1
  ·exact h1
  ·rw [h1]at hp;grind
  ·have:=Rat.mul_pos ha h1;grind
 have zer:a*p=0→p=0:=fun hp=>by
  rcases RU p with h1 | h1 | h1
  ·have:=Rat.mul_pos ha (show 0 < -p by grind);grind
  ·exact h1
  ·have:=Rat.mul_pos ha h1;grind
 refine⟨fun h1 h2=>pos ?_,fun h1 h2=>pos ?_,fun h1 h2=>zer ?_,fun h1 h2=>neg ?_,fun h1 h2=>neg ?_⟩
 ·have:=Rat.mul_pos hb h1;have:=Rat.mul_nonneg (Rat.le_of_lt hc) h2;grind
 ·have:=Rat.mul_nonneg (Rat.le_of_lt hb) h1;have:=Rat.mul_pos hc h2;grind
 ·rw [h,h1,h2];grind
 ·have:=Rat.mul_pos hb (show 0 < -q by grind);have:=Rat.mul_nonneg (Rat.le_of_lt hc) (show 0 ≤ -r by grind);grind
 ·have:=Rat.mul_nonneg (Rat.le_of_lt hb) (show 0 ≤ -q by grind);have:=Rat.mul_pos hc (show 0 < -r by grind);grind
theorem as7{p q r p' q' r':Rat}{i j k:Int}{a b c a' b' c':Rat}(ha:0<a)(hb:0<b)(hc:0<c)(h:a*p=b*q+c*r)(IZ:0<a')(AF:0<b')(VI:0<c')(h':a'*p'=b'*q'+c'*r') :
  (M0 (bT q) (bT q') i j&&M0 (bT r) (bT r') j k && !M0 (bT p) (bT p') i k || !M0 (bT q) (bT q') i j && !M0 (bT r) (bT r') j k&&M0 (bT p) (bT p') i k)=false:=by
 obtain⟨t1,t2,t3,t4,t5⟩:=tri ha hb hc h
 obtain⟨u1,u2,u3,u4,u5⟩:=tri IZ AF VI h'
 have e1:=RS (x:=q) (y:=q') (i:=i) (j:=j)
 have e2:=RS (x:=r) (y:=r') (i:=j) (j:=k)
 have e3:=RS (x:=p) (y:=p') (i:=i) (j:=k)
 have c1:=RU q
 have c2:=RU r
 have c3:=RU q'
 have c4:=RU r'
 clear h h'
 generalize M0 (bT q) (bT q') i j=X at *
 generalize M0 (bT r) (bT r') j k=Y at *
 generalize M0 (bT p) (bT p') i k=Z at *
 cases X<;>cases Y<;>cases Z<;>simp only [Bool.false_eq_true,false_iff,true_iff,Bool.and_true,Bool.and_false,Bool.not_true,Bool.not_false,Bool.or_false,Bool.or_true,Bool.true_and,Bool.false_and]at * <;> exfalso
 ·grind
 ·grind
theorem YS{l:List PT}{cl:List Int}{k:Int}{O:List PT}(hP:aH env.P 27 [aJ gT l, .int .i64 3] (.fG [aJ gT O,aJ ZC O]))(hO:O.length<3) :
  aH env.P 4 [aJ gT l,aJ aF cl, .int .i64 k] (.bool true):=by
 have hw:=yY
 refine cA [(0,aJ gT l),(1,aJ aF cl),(2, .int .i64 k)] Tryz.func4 ?_
 refine aA [0,1,2] ?_
 refine aY [1,2,7] hP ?_
 refine aM [1,2,7,22] ?_
 refine bP ?_ ?_<;>intro h
 ·simp at h
  refine aY [6] hw ?_
  exact cP
 ·simp at h
  omega
set_option maxHeartbeats 4000000 in
theorem RV{l:List PT}{cl:List Int}{k:Int}{a b c:PT}{x:List Int}{cx:List ZX}{an ad bn bd:Int}{u1 u2 u3 w1 w2 w3:Bool}(hP:aH env.P 27 [aJ gT l, .int .i64 3] (.fG [aJ gT [a,b,c],aJ ZC [a,b,c]]))
  (hPk:aH env.P 30 [aJ aF cl, .int .i64 k] (.ag (ZB x cx an ad bn bd)))
  (hTA:aH env.P 29 [.ag (ZB x cx an ad bn bd)] (.ag (G9 x an ad bn bd)))
  (b1:aH env.P 31 [.ag (gT a), .ag (gT b), .ag (G9 x an ad bn bd)] (.bool u1)) (b2:aH env.P 31 [.ag (gT b), .ag (gT c), .ag (G9 x an ad bn bd)] (.bool u2)) (b3:aH env.P 31 [.ag (gT a), .ag (gT c), .ag (G9 x an ad bn bd)] (.bool u3)) (b0:aH env.P 31 [.ag (gT a), .ag (gT a), .ag (G9 x an ad bn bd)] (.bool false))
  (c1:aH env.P 32 [.ag (gT a), .ag (gT b), .ag (G9 x an ad bn bd)] (.bool w1)) (c2:aH env.P 32 [.ag (gT b), .ag (gT c), .ag (G9 x an ad bn bd)] (.bool w2)) (c3:aH env.P 32 [.ag (gT a), .ag (gT c), .ag (G9 x an ad bn bd)] (.bool w3)) (c0:aH env.P 32 [.ag (gT a), .ag (gT a), .ag (G9 x an ad bn bd)] (.bool false))
  (hu:(u1&&u2 && !u3 || !u1 && !u2&&u3)=false) (hv:(w1&&w2 && !w3 || !w1 && !w2&&w3)=false) :
  aH env.P 4 [aJ gT l,aJ aF cl, .int .i64 k] (.bool true):=by
 have hw:=yY
 simp only [ZB,G9,mZ]at hPk hTA b0 b1 b2 b3 c0 c1 c2 c3
 refine cA [(0,aJ gT l),(1,aJ aF cl),(2, .int .i64 k)] Tryz.func4 ?_
 refine aA [0,1,2] ?_
 refine aY [1,2,7] hP ?_
 refine aM [1,2,7,22] ?_
 refine bP ?_ ?_<;>intro h
 ·simp at h
 refine W.skip ?_
 refine j4 ?_
 refine b8 hPk ?_
 refine cI [7,9] hTA ?_
 refine aM [7,9,28,29,30] ?_
 refine W.block ?_
 refine W.a8 (fun m σ=>∃(i v9 e9:Nat) (rows:Pm.Rows) (clk:Nat),σ=⟨fa [(7,aJ gT [a,b,c]),(9, .ptr 9 v9 0 0),(28, .jB [[.fn 31 []],[.fn 32 []]]),(29, .int .i64 2),(30, .int .i64 i)],rows,clk⟩∧rows 9=some ⟨v9,e9,9,[G9 x an ad bn bd]⟩∧i+m=2) 2 ?_ ?_
 ·exact⟨_, .refl,0,_,_,_,_,rfl,by simp;rfl,by omega⟩
 rintro m _ ⟨i,v9,e9,rows,clk,rfl,tV,him⟩
 simp only [G9]at tV
 refine cC [7,9,28,29,30,31] ?_
 refine bP ?_ ?_<;>intro h
 ·have R4:i<2:=by simp at h;omega
  refine iT ?_
  have hc:i=0∨i=1:=by omega
  rcases hc with rfl | rfl
  ·refine aA [7,9,11,28,29,30] ?_
   refine W.sd ?_
   simp (disch:=omega) [gw,tV]
   refine aD b1 ?_
   simp (disch:=omega) [gw,tV]
   refine aD b2 ?_
   simp (disch:=omega) [gw,tV]
   refine aD b3 ?_
   simp (disch:=omega) [gw,tV]
   refine bO [7,9,11,12,13,14,28,29,30] ?_
   refine W.aa4 (fun σ=>σ=⟨fa [(7,aJ gT [a,b,c]),(9, .ptr 9 v9 0 0),(28, .jB [[.fn 31 []],[.fn 32 []]]),(29, .int .i64 2),(30, .int .i64 0),(90, .bool false)],rows,clk⟩) (fun K hK=>?_) ?_
   ·rcases u1 with _ | _<;>rcases u2 with _ | _<;>rcases u3 with _ | _
    all_goals first
     | exact absurd hu (by decide)
     | skip
    all_goals
     simp (disch:=omega) [gw,tV]
     refine aD b0 ?_
     simp (disch:=omega) [gw,tV]
     exact hK _ _ (aC _ [7,9,28,29,30,90]) rfl
   rintro _ rfl
   refine bP ?_ ?_<;>intro h
   ·simp at h
   refine W.skip ?_
   refine W.b9 (fun K hK=>?_);simp (disch:=omega) [gw]
   refine hK _ ⟨1,_,aC _ [7,9,28,29,30],by omega,1,v9,e9,_,_,rfl,tV,by omega⟩
  ·refine aA [7,9,11,28,29,30] ?_
   refine W.sd ?_
   simp (disch:=omega) [gw,tV]
   refine aD c1 ?_
   simp (disch:=omega) [gw,tV]
   refine aD c2 ?_
   simp (disch:=omega) [gw,tV]
   refine aD c3 ?_
   simp (disch:=omega) [gw,tV]
   refine bO [7,9,11,12,13,14,28,29,30] ?_
   refine W.aa4 (fun σ=>σ=⟨fa [(7,aJ gT [a,b,c]),(9, .ptr 9 v9 0 0),(28, .jB [[.fn 31 []],[.fn 32 []]]),(29, .int .i64 2),(30, .int .i64 1),(90, .bool false)],rows,clk⟩) (fun K hK=>?_) ?_
   ·rcases w1 with _ | _<;>rcases w2 with _ | _<;>rcases w3 with _ | _
    all_goals first
     | exact absurd hv (by decide)
     | skip
    all_goals
     simp (disch:=omega) [gw,tV]
     refine aD c0 ?_
     simp (disch:=omega) [gw,tV]
     exact hK _ _ (aC _ [7,9,28,29,30,90]) rfl
   rintro _ rfl
   refine bP ?_ ?_<;>intro h
   ·simp at h
   refine W.skip ?_
   refine W.b9 (fun K hK=>?_);simp (disch:=omega) [gw]
   refine hK _ ⟨0,_,aC _ [7,9,28,29,30],by omega,2,v9,e9,_,_,rfl,tV,by omega⟩
 ·refine eJ ?_
  refine aY [6] hw ?_
  exact cP
end Go.Proofs.YtiobceocpabjdaaGreat
