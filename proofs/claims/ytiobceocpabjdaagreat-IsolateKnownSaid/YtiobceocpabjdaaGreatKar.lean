import Derived.Test.YtiobceocpabjdaaGreatKaq
set_option linter.unusedSimpArgs false
set_option linter.unusedVariables false
namespace Go.Proofs.YtiobceocpabjdaaGreat
open Go Pm
open ZX hiding N W
theorem T1{q:Rat}{n:Nat}(h:q.num.natAbs≤n):Ab q (n:Rat):=by
 have hd:(1:Rat)≤((q.den:Int):Rat):=dW (by have:=q.den_pos;omega)
 have hq:((q.num:Int):Rat)=q*((q.den:Int):Rat):=by
  have h1:q=(q.num:Rat)/((q.den:Int):Rat):=by
   rw [←Rat.divInt_eq_div,Rat.num_divInt_den]
  have h2:=Rat.div_mul_cancel (a:=(q.num:Rat)) (b:=((q.den:Int):Rat)) (by grind)
  rw [←h1]at h2
  exact h2.symm
 have h3:((q.num:Int):Rat)≤(((n:Int):Int):Rat):=Rat.intCast_le_intCast.2 (by omega)
 have h4:(((-(n:Int)):Int):Rat)≤((q.num:Int):Rat):=Rat.intCast_le_intCast.2 (by omega)
 rw [Rat.intCast_neg]at h4
 have h5:(((n:Int):Int):Rat)=(n:Rat):=Rat.intCast_natCast n
 rw [h5]at h3 h4
 have h6:(0:Rat)≤(n:Rat):=Rat.natCast_nonneg
 generalize ((q.num:Int):Rat)=u at *
 generalize ((q.den:Int):Rat)=v at *
 generalize (n:Rat)=m at *
 have h7:=Rat.mul_le_mul_of_nonneg_left hd h6
 constructor
 ·refine Rat.not_lt.1 fun h=>?_
  have:=Rat.mul_le_mul_of_nonneg_left hd (show 0 ≤ -m-q by grind)
  grind
 ·refine Rat.not_lt.1 fun h=>?_
  have:=Rat.mul_le_mul_of_nonneg_left hd (show 0≤q-m by grind)
  grind
theorem aaw(t:Rat):(j4 t).l = [-t.num,(t.den:Int)]:=gV (x:=(t.den:Int)) (by have:=t.den_nz;omega) [-t.num]
theorem QP(t:Rat):j4 t≠0:=(JM t).ne
theorem Bg.j4{a b r:Rat}(fN:a≤b)(h:r<a∨b<r):Bg a b (Go.Proofs.YtiobceocpabjdaaGreat.j4 r):=by
 have e1:=fun s=>NB s r
 unfold Go.Proofs.YtiobceocpabjdaaGreat.j4 at e1 ⊢
 have hd:(0:Rat)<((r.den:Int):Rat):=Rat.intCast_pos.2 (by have:=r.den_pos;omega)
 simp only [CY]at e1
 refine Bg.lin ?_
 rw [e1 a,e1 b]
 rcases h with h | h
 ·exact .inl ⟨Rat.mul_pos hd (by grind),Rat.mul_pos hd (by grind)⟩
 ·right
  have:=Rat.mul_pos hd (show 0<r-a by grind)
  have:=Rat.mul_pos hd (show 0<r-b by grind)
  exact⟨by grind,by grind⟩
structure Kn(T:List Rat)(p:ZX):Prop where
 UJ:T.Pairwise (· < ·)
 ne:p≠0
 hN:ZX.N p=T.length+1
 hn:n1 p≤13^T.length
 rt:∀r∈T,e r p=0
 bg:∀a b,a≤b→(∀r∈T,r<a∨b<r)→Bg a b p
 rng:∀r∈T,r.num.natAbs≤9∧r.den≤4
theorem Kn.nil:Kn [] (of [1]) where
 UJ:=.nil
 ne:=ZX.aF.2 (by decide)
 hN:=by decide
 hn:=by decide
 rt:=fun _ h=>by cases h
 bg:=fun _ _ _ _=>Bg.K (c:=1) (by decide)
 rng:=fun _ h=>by cases h
theorem JT{r:Rat}(h:r.num.natAbs≤9∧r.den≤4):n1 (j4 r)≤13:=by
 unfold n1
 rw [aaw]
 simp only [l1,List.map_cons,List.map_nil,List.sum_cons,List.sum_nil]
 omega
theorem Kn.ins{T:List Rat}{p:ZX}(K:Kn T p){r:Rat}(hr:r.num.natAbs≤9∧r.den≤4){k:Nat}(h1:∀x∈T.take k,x<r)(h2:∀x∈T.drop k,r<x):Kn (T.take k++r::T.drop k) (p*j4 r):=by
 have mG:∀x,x∈T.take k++r::T.drop k↔x=r∨x∈T:=fun x=>by
  simp only [List.mem_append,List.mem_cons]
  constructor
  ·rintro(h | h | h)
   ·exact .inr (List.mem_of_mem_take h)
   ·exact .inl h
   ·exact .inr (List.mem_of_mem_drop h)
  ·rintro(h | h)
   ·exact .inr (.inl h)
   ·rw [←List.take_append_drop k T]at h
    rcases List.mem_append.1 h with h | h
    ·exact .inl h
    ·exact .inr (.inr h)
 have hlen:(T.take k++r::T.drop k).length=T.length+1:=by
  have:=congrArg List.length (List.take_append_drop k T)
  simp only [List.length_append,List.length_cons]at this ⊢
  omega
 refine⟨?_,ZX.o9 K.ne (QP r),?_,?_,fun x hx=>?_,fun a b fN h=>?_,fun x hx=>?_⟩
 ·have hs:=K.UJ
  rw [←List.take_append_drop k T,List.pairwise_append]at hs
  obtain⟨s1,s2,s3⟩:=hs
  rw [List.pairwise_append]
  refine⟨s1,List.pairwise_cons.2 ⟨h2,s2⟩,fun a ha b hb=>?_⟩
  rcases List.mem_cons.1 hb with rfl | hb
  ·exact h1 a ha
  ·exact s3 a ha b hb
 ·rw [ZX.mP K.ne (QP r),K.hN,pE,hlen]
  omega
 ·rw [hlen,Nat.pow_succ]
  exact Nat.le_trans (aji _ _) (Nat.mul_le_mul K.hn (JT hr))
 ·rw [mS]
  rcases(mG x).1 hx with rfl | hx
  ·rw [NB];grind
  ·rw [K.rt x hx,Rat.zero_mul]
 ·exact(K.bg a b fN fun x hx=>h x ((mG x).2 (.inr hx))).mul (Bg.j4 fN (h r ((mG r).2 (.inl rfl))))
 ·rcases(mG x).1 hx with rfl | hx
  ·exact hr
  ·exact K.rng x hx
theorem p13{k:Nat}(h:k≤4):13^k≤28561:=by
 have:=Nat.pow_le_pow_right (show 0<13 by decide) h
 exact Nat.le_trans this (by decide)
theorem Kn.lay{T:List Rat}{p:ZX}(K:Kn T p)(h:T.length≤4):tY 15 5 p:=by
 have h1:=K.hn
 have h2:=p13 h
 have h3:=K.hN
 exact⟨BZ.afG (by have e15:(2:Nat)^15=32768:=(by decide);omega) (by omega),by decide,by decide,by decide⟩
theorem Kn.iso{T:List Rat}{p:ZX}(K:Kn T p)(h:T.length≤4):pI (qb 15 5) 5 (sq p):=ajo (K.lay h) K.ne (by decide) (by decide) (by decide)
theorem Kn.count{T:List Rat}{p:ZX}(K:Kn T p)(h:T.length≤4){a b:Rat}(fN:a<b):vt (bE (sq p)) a=vt (bE (sq p)) b+(T.countP fun r=>decide (a<r∧r≤b)):=by
 have h0:=K.ne
 have hG:=(K.lay h).zW h0 (by decide)
 refine hG.count (K.UJ.imp fun h=>Rat.ne_of_lt h) (fun r hr=>(FH h0).2 (K.rt r hr)) (fun a b fN hr=>?_) fN
 have key:∀a,a<b→(∀r∈T,r<a∨b<r)→vt (bE (sq p)) a=vt (bE (sq p)) b:=fun a fN h=>hG.bg ((K.bg a b (Rat.le_of_lt fN) h).dv (QF h0)) fN
 by_cases h1:e a (sq p)=0
 ·obtain⟨a',q1,q2,q3⟩:=hG.TL fN h1
  rw [q3]
  rcases Rat.le_iff_lt_or_eq.1 q2 with h2 | rfl
  ·exact key a' h2 fun r xS=>by
    by_cases h3:a<r
    ·exact .inr (hr r xS h3)
    ·left;grind
  ·rfl
 ·refine key a fN fun r xS=>?_
  by_cases h3:a<r
  ·exact .inr (hr r xS h3)
  ·left
   refine Rat.lt_of_le_of_ne (Rat.not_lt.1 h3) fun h4=>h1 ?_
   rw [←h4]
   exact(FH h0).2 (K.rt r xS)
theorem Kn.range{T:List Rat}{p:ZX}(K:Kn T p):∀r∈T, -9≤r∧r≤9:=fun r hr=>T1 (K.rng r hr).1
def J3(T:List Rat)(t:Rat):Nat:=T.countP fun r=>decide (r≤t)
theorem aju{T:List Rat}{t:Rat}:J3 T t≤T.length:=List.countP_le_length
theorem Kn.level{T:List Rat}{p:ZX}(K:Kn T p)(h:T.length≤4):(∀t,vt (bE (sq p)) t+J3 T t=vt (bE (sq p)) (-fP (sq p).l))∧vt (bE (sq p)) (fP (sq p).l)+T.length=vt (bE (sq p)) (-fP (sq p).l):=by
 have I:=K.iso h
 have hr:=K.range
 have c1:∀t:Rat, -100<t→vt (bE (sq p)) (-100)=vt (bE (sq p)) t+J3 T t:=fun t ht=>by
  rw [K.count h ht]
  congr 1
  refine List.countP_congr fun r xS=>?_
  have:=hr r xS
  simp only [decide_eq_true_eq]
  exact⟨fun q=>q.2,fun q=>⟨by grind,q⟩⟩
 have c2:=c1 100 (by decide)
 have e2:J3 T 100=T.length:=by
  unfold J3
  rw [List.countP_eq_length]
  intro r xS
  have:=hr r xS
  simp only [decide_eq_true_eq]
  grind
 have c3:=K.count h I.QM
 have c4:(T.countP fun r=>decide (-fP (sq p).l<r∧r≤fP (sq p).l))≤T.length:=List.countP_le_length
 have t1:=I.afK (-100)
 have t2:=I.afL 100
 have e3:vt (bE (sq p)) (-100)=vt (bE (sq p)) (-fP (sq p).l):=by omega
 refine⟨fun t=>?_,by omega⟩
 by_cases ht : -100<t
 ·rw [←e3,c1 t ht]
 ·have a1:=I.S.iY (show t ≤ -100 by grind)
  have a2:=I.afK t
  have a3:J3 T t=0:=by
   unfold J3
   rw [List.countP_eq_zero]
   intro r xS
   have:=hr r xS
   simp only [decide_eq_true_eq]
   grind
  omega
theorem nS{t:Rat}:∀ {T:List Rat} {i:Nat},T.Pairwise (· < ·)→i<T.length→(i+1≤J3 T t↔nth T i≤t)
 | [],i,_,h=>by simp at h
 | r::T,i,hs,hi=>by
  obtain⟨s1,s2⟩:=List.pairwise_cons.1 hs
  unfold J3
  rw [List.countP_cons]
  by_cases hr:r≤t
  ·rw [if_pos (by simpa using hr)]
   cases i with
   | zero=>exact⟨fun _=>hr,fun _=>by omega⟩
   | succ i =>
    have:=nS (t:=t) s2 (show i<T.length by simpa using hi)
    unfold J3 at this
    rw [show nth (r::T) (i+1)=nth T i by simp [nth],←this]
    omega
  ·rw [if_neg (by simpa using hr)]
   have h0:(T.countP fun r=>decide (r≤t))=0:=by
    rw [List.countP_eq_zero]
    intro x hx
    have:=s1 x hx
    simp only [decide_eq_true_eq]
    grind
   rw [h0]
   refine⟨fun h=>by omega,fun h=>absurd h ?_⟩
   have hm:=bR hi
   rcases List.mem_cons.1 hm with hm | hm
   ·rw [hm];exact hr
   ·have:=s1 _ hm;grind
theorem Kn.NW{T:List Rat}{p:ZX}(K:Kn T p){i j:Nat}(T6:i<j)(hj:j<T.length):nth T i<nth T j:=by
 rw [bZ (by omega),bZ hj]
 exact List.pairwise_iff_getElem.1 K.UJ i j (by omega) hj T6
theorem Kn.FV{T:List Rat}{p:ZX}(K:Kn T p){i:Nat}(hi:i<T.length):J3 T (if 0<i then nth T (i-1)else -100)=i:=by
 by_cases h:0<i
 ·rw [if_pos h]
  have h1:=(nS (t:=nth T (i-1)) K.UJ (show i-1<T.length by omega)).2 Rat.le_refl
  have h2:¬i+1≤J3 T (nth T (i-1)):=fun h3=>by
   have h4:=(nS K.UJ hi).1 h3
   have h5:=K.NW (show i-1<i by omega) hi
   grind
  omega
 ·rw [if_neg h]
  have h0:i=0:=by omega
  subst h0
  unfold J3
  rw [List.countP_eq_zero]
  intro r xS
  have:=K.range r xS
  simp only [decide_eq_true_eq]
  grind
theorem Kn.aax{T:List Rat}{p:ZX}(K:Kn T p){i:Nat}(hi:i<T.length):J3 T (nth T i)=i+1:=by
 have h1:=(nS (t:=nth T i) K.UJ hi).2 Rat.le_refl
 by_cases h:i+1<T.length
 ·have h2:¬i+1+1≤J3 T (nth T i):=fun h3=>by
   have h4:=(nS K.UJ h).1 h3
   have h5:=K.NW (show i<i+1 by omega) h
   grind
  omega
 ·have:=aju (T:=T) (t:=nth T i)
  omega
theorem Kn.len{T:List Rat}{p:ZX}(K:Kn T p)(h:T.length≤4):(z7 (qb 15 5) 5 (sq p)).length=T.length:=by
 have h1:=(K.iso h).ivs.len
 have h2:=(K.level h).2
 omega
theorem afM{U:Rat→Prop}{r:Rat}(h:∀t,U t↔r≤t):cr U r=0:=FQ.2 ⟨(h r).2 Rat.le_refl,fun s hs hu=>by have:=(h s).1 hu;grind⟩
theorem Kn.aay{T:List Rat}{p:ZX}(K:Kn T p)(h:T.length≤4){i:Nat}(hi:i<T.length)(t:Rat):NN (sq p) (nth ((z7 (qb 15 5) 5 (sq p)).map (ex (sq p))) i) t↔nth T i≤t:=by
 have I:=K.iso h
 rw [I.NT i (by rw [K.len h];exact hi),←nS K.UJ hi]
 have:=(K.level h).1 t
 omega
theorem Kn.T3{T:List Rat}{p:ZX}(K:Kn T p)(h:T.length≤4){i:Nat}(hi:i<T.length){lo:Rat}(BJ:J3 T lo=i){q:Rat × Rat}(h1:vt (bE (sq p)) q.1=vt (bE (sq p)) lo)(h2:vt (bE (sq p)) q.1=vt (bE (sq p)) q.2+1)(t:Rat):NN (sq p) q t↔nth T i≤t:=by
 have I:=K.iso h
 rw [C8 I.S h2,←nS K.UJ hi]
 have:=(K.level h).1 t
 have:=(K.level h).1 lo
 omega
theorem Kn.N2{T:List Rat}{p:ZX}(K:Kn T p){i:Nat}(hi:i<T.length):2≤ZX.N (sq p):=by
 have h1:=(FH K.ne).2 (K.rt _ (bR hi))
 have h2:=(FG.1 h1).pB (FF K.ne).1.ne
 rw [pE]at h2
 exact h2
def gg(x:ZX × Rat × Rat):List PV:=Po x.1.l::(tc x.2.1++tc x.2.2)
@[simp] theorem auk{x:ZX × Rat × Rat}:gg x=Po x.1.l::(tc x.2.1++tc x.2.2):=rfl
@[simp] theorem als{l:List (ZX × Rat × Rat)}:bB 9 (emap gg l)=True:=cJ fun _=>rfl
@[simp] theorem ajv{v e n:Nat}{l:List (ZX × Rat × Rat)}:cK (some ⟨v,e,n,emap gg l⟩)=True:=cC fun _=>rfl
theorem pI.root{s n:Nat}{f:ZX}(I:pI s n f){p:Rat × Rat}(hp:p∈z7 s n f):SQ (uu s) p.1∧SQ (uu s) p.2∧IsA f (vt (bE f)) (ex f p).1 (ex f p).2∧SQ (uu s) (ex f p).1∧SQ (uu s) (ex f p).2:=by
 obtain⟨a1,a2,a3,a4,a5,a6⟩:=I.ivs.mem _ hp
 refine⟨a1,a2,(FU ⟨I.S, .inr ⟨a4,a6⟩⟩).1,?_,?_⟩<;>(unfold ex;split<;>assumption)
def kn(l:List Int)(i:Nat):Rat:=cY (nth l i%19-9) (1+nth l (i+1)%4)
theorem apJ(l:List Int)(i:Nat):(kn l i).num.natAbs≤9∧(kn l i).den≤4:=by
 have h1:=Int.emod_nonneg (nth l i) (show (19:Int)≠0 by decide)
 have h2:=Int.emod_lt_of_pos (nth l i) (show (0:Int)<19 by decide)
 have h3:=Int.emod_nonneg (nth l (i+1)) (show (4:Int)≠0 by decide)
 have h4:=Int.emod_lt_of_pos (nth l (i+1)) (show (0:Int)<4 by decide)
 have h5:((kn l i).den:Int).natAbs≤4:=by
  unfold kn
  rw [nM _ _ (by omega),if_neg (by omega)]
  exact Nat.le_trans (Int.natAbs_ediv_le_natAbs _ _) (by omega)
 refine⟨?_,by omega⟩
 unfold kn
 rw [nK _ _ (by omega),if_neg (by omega)]
 exact Nat.le_trans (Int.natAbs_ediv_le_natAbs _ _) (by omega)
theorem sq9{r:Rat}(h:r.num.natAbs≤9∧r.den≤4):SQ 7 r:=⟨Nat.le_trans (mU (k:=4) (by omega)) (by decide),Nat.le_trans (mU (k:=4) (by omega)) (by decide),by decide⟩
structure KF(p:ZX)(T:List Rat)(f:ZX)(c:List ZX)(L:List (Rat × Rat))(q:Nat→Rat × Rat)(w:Nat→List (Rat × Rat)):Prop where
 len:L.length=T.length
 t4:T.length≤4
 roots:aL env.P 18 [Po p.l] (.dX [aQ (ga f) L, .int .i64 0])
 fa:∀i,i<T.length→aL env.P 20 [GA f (nth L i)] (QA f c (ex f (nth L i)))
 cr:∀i,i<T.length→aL env.P 19 [QA f c (ex f (nth L i)),RR (nth T i)] (.int .i64 0)
 va:∀i,i<T.length→aL env.P 21 [GA f (nth L i)] (.bool true)
 tl:∀i,i<T.length→aL env.P 23 [RR (if 0<i then nth T (i-1)else -100)] (RT (if 0<i then nth T (i-1)else -100))
 tr:∀i,i<T.length→aL env.P 23 [RR (nth T i)] (RT (nth T i))
 fi:∀i,i<T.length→aL env.P 22 [Po p.l,RT (if 0<i then nth T (i-1)else -100)] (.dX [GA f (q i), .bool true])
 fq:∀i,i<T.length→aL env.P 20 [GA f (q i)] (QA f c (ex f (q i)))
 cq:∀i,i<T.length→aL env.P 19 [QA f c (ex f (q i)),RR (nth T i)] (.int .i64 0)
 wi:∀i,i<T.length→aL env.P 24 [Po p.l,RT (if 0<i then nth T (i-1)else -100),RT (nth T i)] (aQ (ga f) (w i))∧(w i).length=1
 la:∀i,i+1=T.length→aL env.P 22 [Po p.l,RT (nth T i)] (.dX [QO, .bool false])
 no:aL env.P 24 [Po p.l,RT (wS 30 0),RT (wS 0 0)] (aQ (ga f) [])
theorem aum:SQ 7 (-100:Rat):=⟨by decide,by decide,by decide⟩
theorem apK{T:List Rat}{p:ZX}(K:Kn T p)(h:T.length≤4):∃q w,KF p T (sq p) (bE (sq p)) (z7 (qb 15 5) 5 (sq p)) q w:=by
 have I:=K.iso h
 have hS:=rT (K.lay h)
 have hq5:qb 15 5≤5000:=by decide
 have hlen:=K.len h
 have hrc:=fun i hi=>K.aay h (i:=i) hi
 generalize qb 15 5=s0 at *
 have hs:=I.hs
 have qs:∀i,i<T.length→SQ 7 (nth T i):=fun i hi=>sq9 (K.rng _ (bR hi))
 have ql:∀i,i<T.length→SQ 7 (if 0<i then nth T (i-1)else -100):=fun i hi=>by
  by_cases h0:0<i
  ·rw [if_pos h0];exact qs _ (by omega)
  ·rw [if_neg h0];exact aum
 have adA:=K.level h
 have hF:∀i,i<T.length→_:=fun i hi=>I.NU hS (ql i hi) (by
  have h1:=adA.1 (if 0<i then nth T (i-1)else -100)
  rw [K.FV hi]at h1
  omega)
 have aaz:∀i,i<T.length→_:=fun i hi=>I.root (bR (show i<(z7 s0 5 (sq p)).length by omega))
 refine⟨fun i=>NR s0 5 (sq p) (if 0<i then nth T (i-1)else -100),fun i=>wl s0 5 (sq p) (if 0<i then nth T (i-1)else -100) (nth T i) 7,hlen,h,z8 hS I,fun i hi=>?_,fun i hi=>?_,fun i hi=>?_,fun i hi=>(ql i hi).tor (by decide),fun i hi=>(qs i hi).tor (by decide),fun i hi=>(hF i hi).1,fun i hi=>?_,fun i hi=>?_,fun i hi=>?_,fun i hi=>?_,?_⟩
 ·obtain⟨r1,r2,_⟩:=aaz i hi
  exact I.afI r1 r2 (by unfold uu;omega)
 ·obtain⟨r1,r2,r3,r4,r5⟩:=aaz i hi
  have:=I.aar r3 r4 r5 ((qs i hi).mono (show 7≤uu s0 by unfold uu;omega)) (by unfold uu;omega)
  rw [afM fun t=>by
   have:=hrc i hi t
   rwa [z9 (by omega)]at this]at this
  exact this
 ·obtain⟨r1,r2,r3,r4,r5⟩:=aaz i hi
  obtain⟨_,_,_,a4,_,a6⟩:=I.ivs.mem _ (bR (show i<(z7 s0 5 (sq p)).length by omega))
  exact I.aat ⟨I.S, .inr ⟨a4,a6⟩⟩ (K.N2 hi) r1 r2 (by unfold uu;omega)
 ·obtain⟨_,q1,q2,q3,q4,q5,q6⟩:=hF i hi
  exact I.afI q1 q2 (by omega)
 ·obtain⟨_,q1,q2,q3,q4,q5,q6⟩:=hF i hi
  have A:IsA (sq p) (vt (bE (sq p))) (NR s0 5 (sq p) (if 0<i then nth T (i-1)else -100)).1 (NR s0 5 (sq p) (if 0<i then nth T (i-1)else -100)).2:=⟨I.S, .inr ⟨q4,q6⟩⟩
  have hx:=FU A
  have hq:SQ (180*s0+2100) (ex (sq p) (NR s0 5 (sq p) (if 0<i then nth T (i-1)else -100))).1∧SQ (180*s0+2100) (ex (sq p) (NR s0 5 (sq p) (if 0<i then nth T (i-1)else -100))).2:=by
   generalize NR s0 5 (sq p) (if 0<i then nth T (i-1)else -100)=z at *
   unfold ex
   split
   ·exact⟨q2,q2⟩
   ·exact⟨q1,q2⟩
  have:=I.aar hx.1 hq.1 hq.2 ((qs i hi).mono (show 7≤180*s0+2100 by omega)) (by omega)
  rw [afM fun t=>(hx.2 t).trans (K.T3 h hi (K.FV hi) q5 q6 t)]at this
  exact this
 ·refine⟨wE hS I (ql i hi) (qs i hi),?_⟩
  have h1:=adA.1 (if 0<i then nth T (i-1)else -100)
  rw [K.FV hi]at h1
  have h2:=adA.1 (nth T i)
  rw [K.aax hi]at h2
  have fS:(if 0<i then nth T (i-1)else -100)<nth T i:=by
   by_cases h0:0<i
   ·rw [if_pos h0];exact K.NW (by omega) hi
   ·rw [if_neg h0]
    have:=(K.range _ (bR hi)).1
    grind
  rw [(AA I (ql i hi) (qs i hi) fS).2.1]
  omega
 ·refine I.NV hS (qs i (by omega)) ?_
  have h2:=adA.1 (nth T i)
  rw [K.aax (by omega)]at h2
  omega
 ·have:=wE hS I (FA 30 0) (FA 0 0)
  rw [show wl s0 5 (sq p) (wS 30 0) (wS 0 0) = []from if_neg (by decide)]at this
  exact this
end Go.Proofs.YtiobceocpabjdaaGreat
