import Derived.Test.YtelhfbikiccfkaaGreatCan
import Derived.Test.YtelhfbikiccfkaaGreatCao
set_option linter.unusedSimpArgs false
set_option linter.unusedVariables false
namespace Pm
open Go Go.RowKit
def Z8(E:Env)(o:Oper)(K:PS→Prop)(σ:PS):Prop:=
 match o.op with
 | .build t ⟨[(0,x)]⟩=>E.ty t = .struct [(0,1,false)] (E.ty t).zero∧(E.ty t).zero.length=1∧cE (aV σ.f x)=some [aV σ.f x]∧i0 σ.rows (aV σ.f x)∧K (σ.put o.dst (.ag [aV σ.f x]))
 | _=>False
section
variable {E:Env} {w0:World} {S0:eC} {m:Nat} {G:Gs}
theorem TN{o:Oper}{a:Act}{w:World}{σ:PS}{K:PS→Prop}(h:Z8 E o K σ)(hR:Rel w0 S0 m G σ a w)(hd:∀t,o.dst=some t→t<m)
  {K':Act→World→Prop} {Q:Exit→Act→World→Prop} (hK:∀σ' a' w',K σ'→Rel w0 S0 m G σ' a' w'→K' a' w'):o.wp E.P a w K' Q:=by
 obtain⟨⟨c,rfl,hr,gC,hI,hf,hG⟩,hn,fR⟩:=hR
 have hρ:=mM hf
 obtain⟨dst,op,type,pos,after,guard⟩:=o
 simp only at hd
 unfold Z8 at h
 simp only at h
 split at h
 ·rename_i t x
  obtain⟨hE,IC,hc,ho,hk⟩:=h
  rw [←hr]at ho
  obtain⟨g1,g2⟩:=m7 (hρ x) hc (fun q hq=>by simp at hq;subst hq;exact ho)
  have ht:=E.ok t
  rw [hE]at ht
  obtain⟨⟨fields,hu,ha⟩,hz⟩:=ht
  obtain⟨i,zv,hi,hzv,_,QR,_⟩:=hz.ok
  have EJ:zv.cells.size=1:=by
   have:(zv.cells.toList.map jG).length=1:=by rw [QR];exact IC
   simpa using this
  have LJ:(a.eval x).cells.size=1:=by have:=g1.length;simpa using this.symm
  have FU:=pM 0 (a.eval x).cells.toList 0 zv.cells (by simp;omega)
  have hl:((a.eval x).cells.toList.zipIdx 0).foldl (fun cs (x:Value × Nat)=>cs.setIfInBounds (0+x.2) x.1) zv.cells=(a.eval x).cells:=by
   apply Array.toList_inj.1
   rw [FU]
   have h1:(a.eval x).cells.toList.length=1:=by simpa using LJ
   have h2:zv.cells.toList.length=1:=by simpa using EJ
   rw [h1]
   simp [List.drop_of_length_le,h2]
  have kA:(execOp a.eval { dst:=dst,op:=.build t ⟨[(0,x)]⟩,type:=type,pos:=pos,after:=after,guard:=guard }).run E.P c.w = .ok (.value (.agg (a.eval x).cells)) c.w:=by
   have akr:Instr.fill (fun x=>(([(0,1,false)]:List (Nat × Nat × Bool)).toArray.map fun x=>(x.1,x.2.1))[x]?) zv.cells [(0,a.eval x)]=some (a.eval x).cells:=by
    have ET:(([(0,1,false)]:List (Nat × Nat × Bool)).toArray.map fun x=>(x.1,x.2.1))[0]? = some (0,1):=by simp
    simp only [Instr.fill,ET]
    rw [if_neg (by simp [LJ,EJ])]
    have hz3:(a.eval x).cells.toList.zipIdx=(a.eval x).cells.zipIdx.toList:=by simp
    have h5:(a.eval x).cells.zipIdx.foldl (fun cs (x:Value × Nat)=>cs.setIfInBounds (0+x.2) x.1) zv.cells=(a.eval x).cells:=by
     rw [←Array.foldl_toList,←hz3];exact hl
    simp only [h5]
   simp only [execOp,Instr.build,zeroValue,typeInfo,program,Sem.run_bind,Sem.run,hi,hzv,Sem.run_pure,Result.andThen_ok,run_underlying hu,run_places ha]
   simp at akr
   simp [akr]
  unfold Oper.wp
  rw [kA]
  refine hK _ _ _ hk ?_
  exact n4 hf hG hn fR (uE.refl c) hI (show aM c (.ag [aV σ.f x]) (.agg (a.eval x).cells)from⟨(a.eval x).cells.toList,by simp,g1⟩) hd rfl (by simp [PS.put,hr]) gC
 ·exact h.elim
end
theorem W.anS{E:Env}{n:Nat}{tl:Nat→Nat}{Q:PX→PS→Prop}{σ:PS}{id:Nat}{ops:List Oper}{y:Code}(i:Nat){o o2:Oper}(ho:ops=ops.take i++o::o2::ops.drop (i+2))(hg:o.guard=none)(oO:o2.guard=none)
  (h:∀K:PS→Prop,(∀σ,W E n tl y Q σ→K σ)→go (aO E ops (ops.take i) (fun σ=>FH E o (fun σ=>Z8 E o2 (aO E ops (ops.drop (i+2)) K) σ) σ) σ)):W E n tl (.seq (.region id ops.toArray false) y) Q σ:=by
 refine W.seq ?_
 intro gT w0 S0 G a w Q' hR hQ
 simp only [fA,rO,Bool.and_eq_true]at gT
 have hd:∀o∈ops,∀t,o.dst=some t→t<n:=fun o ho t ht=>by
  have:=Array.all_eq_true_iff_forall_mem.1 gT.1 o (by simpa using ho)
  simpa [ht]using this
 refine wp_region_list ?_
 show wpList E.P ops.toArray Q' ops a w
 have h1:=h (fun σ=>W E n tl y Q σ) fun _ h=>h
 have uK:o∈ops:=by rw [ho];simp
 have at1:o2∈ops:=by rw [ho];simp
 have:=oF (E:=E) (w0:=w0) (S0:=S0) (m:=n) (G:=G) (ops:=ops.toArray) (Q:=Q') (l2:=o::o2::ops.drop (i+2)) (K:=fun σ=>FH E o (fun σ=>Z8 E o2 (aO E ops (ops.drop (i+2)) (fun σ=>W E n tl y Q σ)) σ) σ) (fun σ' a' w' hl l5=>by
  unfold wpList
  rw [if_pos (by simp [Region.wanted,hg])]
  refine .inl (uY hl l5 (hd o uK) fun σ2 a2 w2 hk hR2=>?_)
  unfold wpList
  rw [if_pos (by simp [Region.wanted,oO])]
  refine .inl (TN hk hR2 (hd o2 at1) fun σ3 a3 w3 hk3 hR3=>?_)
  exact iE (E:=E) (ops:=ops.toArray) (fun σ4 a4 w4 hk4 hR4=>hQ .normal σ4 a4 w4 hk4 hR4) _ σ3 a3 w3 (fun o ho=>hd o (List.mem_of_mem_drop ho)) hk3 hR3) (ops.take i) σ a w (fun o ho=>hd o (List.mem_of_mem_take ho)) h1 hR
 rwa [←ho]at this
@[simp] theorem av7{E:Env}{K:PS→Prop}{f:Nat→PV}{rows:Rows}{clk:Nat}{d:Option Tmp}{ty:TypeId}{pos:String}{af:Array Edge}{t:TypeId}{x:Operand} :
  Z8 E ⟨d, .build t ⟨[(0,x)]⟩,ty,pos,af,none⟩ K ⟨f,rows,clk⟩=aK (E.ty t = .struct [(0,1,false)] (E.ty t).zero∧(E.ty t).zero.length=1) (fS (cE (aV f x)) fun l=>aK (l = [aV f x]∧iF rows [aV f x]) (K ⟨put f d (.ag [aV f x]),rows,clk⟩)):=by
 simp only [Z8,aK,fS,iF,PS.put]
 apply propext
 constructor
 ·rintro⟨h1,h2,h3,h4,h5⟩;exact⟨⟨h1,h2⟩,_,h3,⟨rfl,by simpa using h4⟩,h5⟩
 ·rintro⟨⟨h1,h2⟩,l,h3,⟨rfl,h4⟩,h5⟩;exact⟨h1,h2,h3,by simpa using h4,h5⟩
end Pm
namespace Go.Proofs.YtelhfbikiccfkaaGreat
open Go Pm
theorem BZ.at2{s s' n n' m:Nat}{a c:ZX}(b:BZ s n a)(b':BZ s' n' c)(hm:ZX.N (a*c)≤m):BZ (s+s'+n') m (a*c):=by
 have h:=Bd.bT (by decide) b' b
 rw [x8]at h
 exact⟨hm,fun d hd=>Nat.le_trans (h.sz d hd) (by omega)⟩
theorem ad3{f:ZX}(hf:f≠0)(bf:BZ 3 3 f):∀k,1≤k→BZ (6*k) (2*k+1) (f^k)∧f^k≠0∧ZX.N (f^k)=k*(ZX.N f-1)+1
 | 0,h=>by omega
 | 1,_=>by
  have e:f^1=f:=by rw [ZX.pow_succ',ZX.eH];grind
  rw [e]
  have:=ZX.aH.1 hf
  exact⟨bf.mono (by omega) (by omega),hf,by omega⟩
 | k+2,_=>by
  obtain⟨h1,h2,h3⟩:=ad3 hf bf (k+1) (by omega)
  have hN:=ZX.aH.1 hf
  have e:ZX.N (f^(k+2))=(k+2)*(ZX.N f-1)+1:=by
   rw [ZX.pow_succ',ZX.j1 h2 hf,h3,Nat.add_mul,Nat.add_mul];omega
  have hl:ZX.N f≤3:=bf.N
  refine⟨?_,ZX.jO h2 hf,e⟩
  have h4:=BZ.at2 h1 bf (m:=2*(k+2)+1) (by
   rw [←ZX.pow_succ',e]
   have:(k+2)*(ZX.N f-1)≤(k+2)*2:=Nat.mul_le_mul_left _ (by omega)
   omega)
  rw [ZX.pow_succ']
  exact h4.mono (by omega) (Nat.le_refl _)
theorem TO{x:List Int}(hx:x ≠ [])(hl:x.length≤3)(hc:∀c∈x,c.natAbs<8)(wW:x.getLast hx≠0):BZ 3 3 (ZX.of x)∧(ZX.of x).l=x∧ZX.of x≠0:=by
 have h1:aP x=x:=by
  obtain⟨y,z,rfl⟩:∃y z,x=y ++ [z]:=⟨x.dropLast,x.getLast hx,(List.dropLast_concat_getLast hx).symm⟩
  exact iA (by simpa using wW) y
 have h2:(ZX.of x).l=x:=h1
 refine⟨⟨by rw [h2];exact hl,fun c SY=>?_⟩,h2,ZX.aH.2 ?_⟩
 ·rw [h2]at SY
  exact dE (by decide) (by have:=hc c SY;show _<8;exact this)
 ·show 0<(ZX.of x).l.length
  rw [h2];exact List.length_pos_iff.2 hx
def gX(l:List Int)(i:Nat):List Int:=
 if (nth l i).tmod 5=3 then [-(nth l i%9-4),nth l (i+2)%3-1,nth l (i+1)%5+1]else [-(nth l i%9-4),nth l (i+1)%5+1]
def sH(l:List Int)(i:Nat):Nat:=1+(nth l (i+2)%3).toNat
def w7(l:List Int)(most i:Nat)(p:ZX):ZX:=if most<ZX.N p-1+sH l i*(ZX.N (ZX.of (gX l i))-1)then p else p*ZX.of (gX l i)^sH l i
def dX(l:List Int)(most:Nat):Nat→ZX
 | 0=>1
 | j+1=>w7 l most (3*j) (dX l most j)
def made(l:List Int)(most:Nat):ZX:=if (0<l.length∧(nth l 0).tmod 7=6)then ZX.K (-3)*dX l most (min 6 (l.length/3))else dX l most (min 6 (l.length/3))
theorem BG(l:List Int)(i:Nat):BZ 3 3 (ZX.of (gX l i))∧(ZX.of (gX l i)).l=gX l i∧ZX.of (gX l i)≠0:=by
 have h9:=Int.emod_nonneg (nth l i) (show (9:Int)≠0 by decide)
 have h9':=Int.emod_lt_of_pos (nth l i) (show (0:Int)<9 by decide)
 have h5:=Int.emod_nonneg (nth l (i+1)) (show (5:Int)≠0 by decide)
 have h5':=Int.emod_lt_of_pos (nth l (i+1)) (show (0:Int)<5 by decide)
 have h3:=Int.emod_nonneg (nth l (i+2)) (show (3:Int)≠0 by decide)
 have h3':=Int.emod_lt_of_pos (nth l (i+2)) (show (0:Int)<3 by decide)
 unfold gX
 split
 ·refine TO (by simp) (by simp) (fun c hc=>?_) (by simp;omega)
  simp only [List.mem_cons,List.not_mem_nil,or_false]at hc
  rcases hc with rfl | rfl | rfl<;>omega
 ·refine TO (by simp) (by simp) (fun c hc=>?_) (by simp;omega)
  simp only [List.mem_cons,List.not_mem_nil,or_false]at hc
  rcases hc with rfl | rfl<;>omega
theorem KH(l:List Int)(i:Nat):1≤sH l i∧sH l i≤3:=by
 have h3:=Int.emod_nonneg (nth l (i+2)) (show (3:Int)≠0 by decide)
 have h3':=Int.emod_lt_of_pos (nth l (i+2)) (show (0:Int)<3 by decide)
 unfold sH;omega
theorem ad4{l:List Int}{most i s:Nat}{p:ZX}(hp:p≠0)(b:BZ s (most+1) p):w7 l most i p≠0∧BZ (s+25) (most+1) (w7 l most i p):=by
 obtain⟨b1,b2,b3⟩:=BG l i
 obtain⟨e1,e2⟩:=KH l i
 obtain⟨h1,h2,h3⟩:=ad3 b3 b1 _ e1
 unfold w7
 split
 ·exact⟨hp,b.mono (by omega) (Nat.le_refl _)⟩
 ·rename_i h
  have hN:=ZX.aH.1 hp
  refine⟨ZX.jO hp h2,(BZ.at2 b h1 (m:=most+1) (by rw [ZX.j1 hp h2,h3];omega)).mono (by omega) (Nat.le_refl _)⟩
theorem nQ(l:List Int)(most:Nat):∀j,dX l most j≠0∧BZ (1+25*j) (most+1) (dX l most j)
 | 0=>⟨ZX.qA,by show(1:ZX).l.length≤most+1;exact Nat.succ_le_succ (Nat.zero_le _),fun c hc=>by
  have h1:(1:ZX).l = [1]:=by decide
  have XU:c∈(1:ZX).l:=hc
  rw [h1]at XU
  simp at XU;subst XU
  exact dE (by decide) (by decide)⟩
 | j+1=>by
  obtain⟨h1,h2⟩:=nQ l most j
  obtain⟨h3,h4⟩:=ad4 (l:=l) (i:=3*j) h1 h2
  exact⟨h3,h4.mono (by omega) (Nat.le_refl _)⟩
theorem BH(l:List Int)(most:Nat):made l most≠0∧BZ 153 (most+1) (made l most):=by
 obtain⟨h1,h2⟩:=nQ l most (min 6 (l.length/3))
 unfold made
 split
 ·refine⟨ZX.jO (ZX.pH (by decide)) h1,?_⟩
  rw [BZ,K_l (by decide)]
  exact⟨by have:=h2.len;simpa using this,fun c hc=>by
   simp only [List.mem_map]at hc
   obtain⟨d,hd,rfl⟩:=hc
   exact Nat.le_trans (cD (by decide) (h2.sz d hd) (dE (k:=2) (by decide) (by decide))) (by omega)⟩
 ·exact⟨h1,h2.mono (by omega) (Nat.le_refl _)⟩
theorem w8(l:List Int)(hl:l.length<9223372036854775808)(hb:∀x∈l, -9223372036854775808≤x∧x<9223372036854775808)(most:Nat)(hm:most≤100):aD env.P 29 [aI aG l, .int .i64 most] (PI (made l most).l):=by
 obtain⟨J,hJ⟩:∃J,J=min 6 (l.length/3):=⟨_,rfl⟩
 have i5:=sG
 have hmd:made l most=if (0<l.length∧(nth l 0).tmod 7=6)then ZX.K (-3)*dX l most J else dX l most J:=by rw [hJ];rfl
 rw [hmd]
 have h0:(1:ZX).l=(dX l most 0).l:=rfl
 rw [h0]at i5
 generalize hg0:(dX l most 0).l=g0 at *
 refine bY [(0,aI aG l),(1, .int .i64 most)] Tryz.func29 ?_
 refine aA [0,1] ?_
 refine aJ [0,1,5] i5 ?_
 refine aL [0,1,5,6] ?_
 subst hg0
 refine W.block ?_
 refine W.bG (fun k σ=>∃(i j:Nat) (rows:Pm.Rows) (clk:Nat),σ=⟨fa [(0,aI aG l),(1, .int .i64 most),(5,PI (dX l most j).l),(6, .int .i64 i)],rows,clk⟩∧i=3*j∧j+k=J) J ?_ ?_
 ·exact⟨_, .refl,0,0,_,_,rfl,rfl,by omega⟩
 rintro k _ ⟨i,j,rows,clk,rfl,hij,hjk⟩
 refine W.seq ?_
 by_cases hj:j<J
 ·have a1:(i:Int)+2<(l.length:Int):=by omega
  have a2:(i:Int)<18:=by omega
  refine W.dY (fun K hK=>?_)
  simp (disch:=omega) [gw,a1,a2]
  refine W.lw [0,1,5,6,21] hK ?_;clear hK K;simp
  refine bC ?_ ?_<;>intro h
  rotate_left
  ·cases h
  clear h
  obtain⟨f1,f2,f3⟩:=BG l i
  obtain⟨e1,e2⟩:=KH l i
  obtain⟨p1,p2,p3⟩:=ad3 f3 f1 _ e1
  obtain⟨m1,m2⟩:=nQ l most j
  have hJ6:J≤6:=by omega
  have hms:dX l most (j+1)=w7 l most i (dX l most j):=by rw [hij];rfl
  have w1:=jM (nth l i) 9 (hb _ (bP (by omega))) (by decide) (by decide)
  have w2:=jM (nth l (i+1)) 5 (hb _ (bP (by omega))) (by decide) (by decide)
  have w3:=jM (nth l (i+2)) 3 (hb _ (bP (by omega))) (by decide) (by decide)
  have bi:=hb _ (bP (show i<l.length by omega))
  have h9:=Int.emod_nonneg (nth l i) (show (9:Int)≠0 by decide)
  have h9':=Int.emod_lt_of_pos (nth l i) (show (0:Int)<9 by decide)
  have h5:=Int.emod_nonneg (nth l (i+1)) (show (5:Int)≠0 by decide)
  have h5':=Int.emod_lt_of_pos (nth l (i+1)) (show (0:Int)<5 by decide)
  have h3:=Int.emod_nonneg (nth l (i+2)) (show (3:Int)≠0 by decide)
  have h3':=Int.emod_lt_of_pos (nth l (i+2)) (show (0:Int)<3 by decide)
  have at3:=ZW (a:=ZX.of (gX l i)) (k:=sH l i) (by omega) (fun r hr=>by
   rcases Nat.eq_zero_or_pos r with h0 | h0
   ·subst h0
    have h1:BZ 1 1 (1:ZX):=(nQ l 0 0).2
    exact pF _ _ _ _ _ _ h1 f1 (by decide)
   ·obtain⟨q1,_,_⟩:=ad3 f3 f1 r h0
    exact pF _ _ _ _ _ _ q1 f1 (by show _<137438953472;omega))
  have hmul:=pF (dX l most j).l (ZX.of (gX l i)^sH l i).l _ _ _ _ m2 p1 (by show _<137438953472;omega)
  have hpN:ZX.N (dX l most j)=(dX l most j).l.length:=rfl
  have hfN:ZX.N (ZX.of (gX l i))=(gX l i).length:=by show(ZX.of (gX l i)).l.length=_;rw [f2]
  have nU:aP (gX l i)=gX l i:=f2
  have OU:=TO (x:=[-(nth l i%9-4),nth l (i+1)%5+1]) (by simp) (by simp) (fun c hc=>by
   simp only [List.mem_cons,List.not_mem_nil,or_false]at hc
   rcases hc with rfl | rfl<;>omega) (by simp;omega)
  have vI:aP [-(nth l i%9-4),nth l (i+1)%5+1] = [-(nth l i%9-4),nth l (i+1)%5+1]:=OU.2.1
  have of1:=wN [-(nth l i%9-4),nth l (i+1)%5+1] (by simp) (fun c hc=>by
   simp only [List.mem_cons,List.not_mem_nil,or_false]at hc
   rcases hc with rfl | rfl<;>omega)
  rw [vI]at of1
  have of2:(nth l i).tmod 5=3→aD env.P 96 [.sl [[.int .i64 (-(nth l i%9-4))],[.int .i64 (nth l (i+2)%3-1)],[.int .i64 (nth l (i+1)%5+1)]]] (PI (gX l i)):=fun h=>by
   have hx:gX l i = [-(nth l i%9-4),nth l (i+2)%3-1,nth l (i+1)%5+1]:=by unfold gX;rw [if_pos h]
   have:=wN (gX l i) (by rw [hx];simp) (fun c hc=>by
    rw [hx]at hc
    simp only [List.mem_cons,List.not_mem_nil,or_false]at hc
    rcases hc with rfl | rfl | rfl<;>omega)
   rw [nU]at this
   rw [hx]at this ⊢
   exact this
  have ak7:¬(nth l i).tmod 5=3→gX l i = [-(nth l i%9-4),nth l (i+1)%5+1]:=fun h=>by unfold gX;rw [if_neg h]
  replace of1:aD env.P 96 [.sl [[.int .i64 (-(nth l i%9-4))],[.int .i64 (nth l (i+1)%5+1)]]] (PI [-(nth l i%9-4),nth l (i+1)%5+1]):=of1
  have aEo:(gX l i).length=2∨(gX l i).length=3:=by unfold gX;split<;>simp
  have hk3:(sH l i:Int)=1+nth l (i+2)%3:=by unfold sH;omega
  have hP6:sH l i*(ZX.N (ZX.of (gX l i))-1)≤6:=by
   have:sH l i*(ZX.N (ZX.of (gX l i))-1)≤3*2:=Nat.mul_le_mul e2 (by rw [hfN];omega)
   omega
  have hP:(1+nth l (i+2)%3)*(((gX l i).length:Int)-1)=((sH l i*(ZX.N (ZX.of (gX l i))-1):Nat):Int):=by
   rw [hfN,Int.natCast_mul,hk3]
   congr 1
   omega
  have ET:0<(dX l most j).l.length∧(dX l most j).l.length≤most+1:=⟨ZX.aH.1 m1,m2.N⟩
  have ah4:dX l most (j+1)=if most<(dX l most j).l.length-1+sH l i*(ZX.N (ZX.of (gX l i))-1)then dX l most j else dX l most j*ZX.of (gX l i)^sH l i:=by rw [hms,w7,hpN]
  rw [←hk3]at hP
  rw [f2]at at3
  clear hms p1 p2 p3 m1 m2 f1 f2 f3 OU vI nU hpN hfN
  generalize sH l i*(ZX.N (ZX.of (gX l i))-1)=PP at *
  generalize hK:sH l i=kk at *
  generalize hpm:bT (dX l most j).l (ZX.of (gX l i)^kk).l=pm at *
  have azc:(dX l most j*ZX.of (gX l i)^kk).l=pm:=hpm
  generalize ZX.of (gX l i)^kk=Fk at *
  generalize hF:gX l i=F at *
  generalize hp0:dX l most j=P0 at *
  have ei1:((i:Int)+1).toNat=i+1:=by omega
  have ei2:((i:Int)+2).toNat=i+2:=by omega
  refine W.skip ?_
  refine W.dK (fun σ=>∃(rows:Pm.Rows) (clk:Nat),σ=⟨fa [(0,aI aG l),(1, .int .i64 most),(5,PI (dX l most (j+1)).l),(6, .int .i64 i)],rows,clk⟩) ?_ ?_
  ·refine W.sd ?_
   simp (disch:=omega) [gw,ei1,ei2]
   refine aB w1 ?_
   simp (disch:=omega) [gw,ei1,ei2]
   refine aB w2 ?_
   simp (disch:=omega) [gw,ei1,ei2]
   refine bS [0,1,5,6,7,8,9] w3 ?_
   refine aJ [0,1,5,6,7,8,9,10] of1 ?_
   refine W.gD (fun σ=>∃(rows:Pm.Rows) (clk:Nat),σ=⟨fa [(0,aI aG l),(1, .int .i64 most),(5,PI P0.l),(6, .int .i64 i),(9, .int .i64 kk),(10,PI F)],rows,clk⟩) ?_ ?_
   ·refine aA [0,1,5,6,7,8,9,10,54] ?_
    refine bC ?_ ?_<;>intro h
    ·have h:(nth l i).tmod 5=3:=by simpa using h
     refine W.cC (fun K hK=>?_)
     simp (disch:=omega) [gw,ei2]
     refine cB w3 ?_
     refine cB (of2 h) ?_
     exact hK _ ⟨_,aC _ [0,1,5,6,9,10],_,_,by rw [hk3];rfl⟩
    ·have h:¬(nth l i).tmod 5=3:=by simpa using h
     rw [ak7 h]
     refine W.skip ?_
     exact⟨_,aC _ [0,1,5,6,9,10],_,_,by rw [hk3];rfl⟩
   rintro _ ⟨rows,clk,rfl⟩
   refine W.seq ?_
   refine W.sr ?_
   simp (disch:=omega) [gw,hP]
   refine bL [0,1,5,6,9,10,77] ?_
   refine bC ?_ ?_<;>intro h
   ·have h:most<P0.l.length-1+PP:=by simp at h;omega
    rw [if_pos h]at ah4
    rw [ah4]
    refine eV ?_
    exact⟨_,aC _ [0,1,5,6],_,_,rfl⟩
   ·have h:¬most<P0.l.length-1+PP:=by simp at h;omega
    rw [if_neg h]at ah4
    rw [ah4,azc]
    refine W.skip ?_
    refine W.cC (fun K hK=>?_)
    simp (disch:=omega) [gw]
    refine cB at3 ?_
    refine cB hmul ?_
    exact hK _ ⟨_,aC _ [0,1,5,6],_,_,rfl⟩
  rintro _ ⟨rows,clk,rfl⟩
  refine W.cC (fun K hK=>?_);simp (disch:=omega) [gw]
  refine hK _ ⟨k-1,_,aC _ [0,1,5,6],by omega,i+3,j+1,_,_,rfl,by omega,by omega⟩
 ·have hjJ:j=J:=by omega
  subst hjJ
  refine W.fG (fun σ=>∃(rows:Pm.Rows) (clk:Nat),σ=⟨fa [(0,aI aG l),(5,PI (dX l most j).l),(21, .bool false)],rows,clk⟩) (fun K hK=>?_) ?_
  ·by_cases a1:(i:Int)+2<(l.length:Int)
   ·have a2:¬(i:Int)<18:=by omega
    simp (disch:=omega) [gw,a1,a2]
    exact hK _ _ (aC _ [0,5,21]) ⟨_,_,rfl⟩
   ·simp (disch:=omega) [gw,a1]
    exact hK _ _ (aC _ [0,5,21]) ⟨_,_,rfl⟩
  rintro _ ⟨rows,clk,rfl⟩
  refine bC ?_ ?_<;>intro h
  ·cases h
  clear h
  have of3:=wN [-3] (by decide) (by decide)
  replace of3:aD env.P 96 [.sl [[.int .i64 (-3)]]] (PI [-3]):=of3
  obtain⟨m1,m2⟩:=nQ l most j
  have hsc:=NP (dX l most j).l (-3) (m2.yy (by show _≤137438953472;omega) (by omega)) (by show sz 2 (-3)≤137438953472;exact Nat.le_trans (dE (k:=2) (by decide) (by decide)) (by decide))
  have hsl:bB (dX l most j).l (-3)=(ZX.K (-3)*dX l most j).l:=Cn.ext (Cn.bB _ _) (ZX.K (-3)*dX l most j).c fun t=>by rw [cM,ZX.dR,ZX.vJ,Int.mul_comm]
  rw [hsl]at hsc
  refine eV ?_
  refine W.gD (fun σ=>∃(rows:Pm.Rows) (clk:Nat),σ=⟨fa [(5,PI (if (0<l.length∧(nth l 0).tmod 7=6)then ZX.K (-3)*dX l most j else dX l most j).l)],rows,clk⟩) ?_ ?_
  ·by_cases y7:0<l.length
   ·by_cases h7:(nth l 0).tmod 7=6
    ·rw [if_pos ⟨y7,h7⟩]
     have b7:((nth l 0).tmod 7==6)=true:=by simpa using h7
     refine W.sr ?_
     simp (disch:=omega) [gw,y7,b7,h7]
     refine bL [5,92] ?_
     refine bC ?_ ?_<;>intro h
     ·refine W.cC (fun K hK=>?_)
      simp (disch:=omega) [gw]
      refine cB of3 ?_
      refine cB hsc ?_
      exact hK _ ⟨_,aC _ [5],_,_,rfl⟩
     ·cases h
    ·rw [if_neg (fun h=>h7 h.2)]
     have b7:((nth l 0).tmod 7==6)=false:=by simpa using h7
     refine W.sr ?_
     simp (disch:=omega) [gw,y7,b7,h7]
     refine bL [5,92] ?_
     refine bC ?_ ?_<;>intro h
     ·cases h
     ·refine W.skip ?_
      exact⟨_,aC _ [5],_,_,rfl⟩
   ·rw [if_neg (fun h=>y7 h.1)]
    have hl1:l.length=0:=by omega
    refine W.sr ?_
    simp (disch:=omega) [gw,hl1]
    refine bL [5,92] ?_
    refine bC ?_ ?_<;>intro h
    ·cases h
    ·refine W.skip ?_
     exact⟨_,aC _ [5],_,_,rfl⟩
  rintro _ ⟨rows,clk,rfl⟩
  refine aA [4] ?_
  exact bV
theorem BZ.z{h n:Nat}{a:ZX}(b:BZ h n a)(hh:h<1099511627776):∀c∈a.l,Z c:=fun c hc=>Nat.lt_of_le_of_lt (b.sz c hc) hh
theorem tH{h n:Nat}{a:ZX}(b:BZ h n a)(hh:h<1099511627776)(hn:n<1099511627776):aD env.P 33 [PI a.l] (Po a.l):=ahF a.l (b.z hh) (Nat.lt_of_le_of_lt b.len hn)
theorem at4{a b:ZX}(ha:a≠0)(hb:Nf b)(h:∀p,ZX.oY p→ZX.mu p b=min (ZX.mu p a) 1):sq a=b:=by
 have nA:=gW ha
 have e:sq a=sz' (nf a):=by
  unfold sq
  split
  ·rename_i h2
   have h3:nf a=1:=nA.N1 (by rw [wT];exact h2)
   rw [h3]
   show 1=wz 1 0
   rw [wz]
   show 1=qz 1 (gd 1)
   rw [adE,Nf.one.self]
  ·rfl
 rw [e]
 exact Nf.sF (adF nA) hb fun p hp=>by rw [adH nA hp,OC hp ha,h p hp]
theorem DV{a:ZX}{n:Nat}(hn:a.l.length≤n)(hc:∀c∈a.l,c.natAbs<8):BZ 3 n a:=⟨hn,fun c h=>dE (by decide) (by have:=hc c h;show _<8;exact this)⟩
theorem Z9{a:ZX}(b:BZ 3 5 a):nX 3 5 a:=⟨b,by decide,by decide,by decide⟩
end Go.Proofs.YtelhfbikiccfkaaGreat
namespace Go.Proofs.YtelhfbikiccfkaaGreat
open Go Pm
open ZX hiding N W
theorem WT{a:ZX}(h:2≤ZX.N a):nth (bX a).l (ZX.N a-2)=lead a.l*((ZX.N a-1:Nat):Int):=by
 have h1:a.l.length=ZX.N a:=rfl
 have h2:nth (bX a).l (ZX.N a-2)=nth a.l (ZX.N a-1)*((ZX.N a-1:Nat):Int):=by
  show nth (aP (yE a.l)) _=_
  rw [i7,yE,dD (by simp;omega)]
  simp only [List.getElem_map,List.getElem_range]
  rw [show ZX.N a-2+1=ZX.N a-1 by omega]
 rw [h2,lead,h1]
theorem ad5{a:ZX}(h:2≤ZX.N a):ZX.N (bX a)=ZX.N a-1:=by
 have h1:=oD a
 have h2:=WT h
 have hl:=cX a.c (show 0<a.l.length from by have:a.l.length=ZX.N a:=rfl;omega)
 have h3:nth (bX a).l (ZX.N a-2)≠0:=by rw [h2];exact Int.mul_ne_zero hl (by omega)
 rcases Nat.lt_or_ge (ZX.N a-2) (bX a).l.length with h4 | h4
 ·have:ZX.N (bX a)=(bX a).l.length:=rfl
  omega
 ·exact absurd (iG h4) h3
theorem ad6{a:ZX}(h:2≤ZX.N a):lead (bX a).l=lead a.l*((ZX.N a-1:Nat):Int):=by
 rw [←WT h,lead,show(bX a).l.length=ZX.N (bX a)from rfl,ad5 h,show ZX.N a-1-1=ZX.N a-2 by omega]
theorem aaa{a:ZX}(h:ZX.N a≤1):bX a=0:=by
 refine Classical.byContradiction fun h0=>?_
 have h1:=ZX.aH.1 h0
 have:=oD a
 omega
theorem ah6{f:ZX}(hf:Nf f):r9 (bX f).l=(qX (bX f)).l:=by
 have h:¬lead (bX f).l<0:=by
  rcases Nat.lt_or_ge (ZX.N f) 2 with h2 | h2
  ·rw [aaa (by omega)];decide
  ·rw [ad6 h2]
   have:=Int.mul_nonneg (Int.le_of_lt hf.l) (show (0:Int)≤((ZX.N f-1:Nat):Int)by omega)
   omega
 show _=j6 (bX f).l
 rw [NX,if_neg h]
theorem KI{α:Type}{g:α→List PV}{l:List α}{s n:Nat}{f:ZX}(hS:aD env.P 74 [aI g l] (Po f.l))(h:Ch s n f)(hf:Nf f):aD env.P 73 [aI g l] (.eB [CH (aT f), .int .i64 0]):=by
 have hn:=h.hn
 have hp:=h.pot
 have hs:=hp.le
 have bd:BZ (s+5) n (bX f):=h.bz.bX (by omega)
 have d1:=qD h.bz (by omega) (by omega)
 have d2:=uC ((bX f).l.map tN) (bd.FE (by omega) (by omega)) (s:=s+5) (n:=n) (by rw [cG];exact LD bd) (by omega) (by omega)
 rw [zY,←i9,ah6 hf]at d2
 have b2:BZ (s+5) n (qX (bX f)):=jA bd
 have b1:BZ (s+5) n f:=h.bz.mono (by omega) (Nat.le_refl _)
 have JO:ZX.N (qX (bX f))≤ZX.N f:=Nat.le_trans (l9 _) (Nat.le_trans (oD f) (by omega))
 have hc:aT f=f::uZ (ZX.N f) f (qX (bX f)):=rfl
 rw [DR JO (Nat.le_refl _)]at hc
 have hf0:f.l.length≠0:=by have:=ZX.aH.1 hf.ne;exact Nat.pos_iff_ne_zero.1 this
 have hf1:¬f.l = []:=fun h0=>hf0 (by rw [h0];rfl)
 generalize hC:aT f=C at *
 generalize qX (bX f)=g0 at *
 generalize lK (bX f).l=pc at *
 generalize (bX f).l=dl at *
 refine bY [(0,aI g l)] Tryz.func73 ?_
 refine aA [0] ?_
 refine aJ [4] hS ?_
 refine aL [4,14] ?_
 refine bC ?_ ?_<;>intro h
 ·simp at h;exact absurd h hf1
 refine W.skip ?_
 refine W.anS 1 rfl rfl rfl (fun K hK=>?_)
 simp (disch:=omega) [gw]
 refine W.lw [4,5] hK ?_;clear hK K;simp
 refine iB ?_
 refine cB d1 ?_
 refine bS [4,5,7] d2 ?_
 refine W.seq ?_
 refine W.block ?_
 refine W.bG (fun k σ=>∃(L:List ZX) (x y:ZX) (i ver v18 e18 s:Nat) (rows:Pm.Rows) (clk:Nat),σ=⟨fa [(4,Po x.l),(5, .ptr 18 v18 0 0),(7,Po y.l)],rows,clk⟩∧rows 16=some ⟨ver,24,1,emap zp L⟩∧rows 18=some ⟨v18,e18,1,[[.own 16 ver 0 (i+1)]]⟩∧L.length=i+1 ∧
  L++uZ k x y=C∧k=ZX.N y∧BZ s n x∧BZ s n y∧yG 4500000000 n s x y∧i+ZX.N y≤20) (ZX.N g0) ?_ ?_
 ·exact⟨_, .refl,[f],f,g0,0,_,_,_,s+5,_,_,rfl,by simp [emap];(first | exact rfl | exact⟨rfl,rfl⟩),by simp;(first | exact rfl | exact⟨rfl,rfl⟩ | exact⟨rfl,rfl,rfl⟩),rfl,hc.symm,rfl,b1,b2,hp,by have:=b2.N;omega⟩
 rintro k _ ⟨L,x,y,i,ver,v18,e18,s,rows,clk,rfl,FN,OV,hL,SY,rfl,bx,tD,hp,hiN⟩
 have hs:=hp.le
 have hlx:=bx.len
 have hly:=tD.len
 have hLl:(emap zp L).length=i+1:=by simp [emap,hL]
 refine aL [4,5,7,27] ?_
 refine bC ?_ ?_<;>intro h
 ·have hy:y≠0:=ZX.aH.2 (by show 0<y.l.length;simp at h;omega)
  have hR:=NV (x.l.map tN) (y.l.map tN) (bx.FE (by omega) (by omega)) (tD.FE (by omega) (by omega)) (s:=s) (s':=s) (N:=n) (by rw [cG];exact LD bx) (by rw [cG];exact LD tD) (by
   have:n*(s+n+1)≤20*4500000000:=Nat.mul_le_mul hn hs
   omega)
  rw [zY,zY,if_neg (sC hy),←i9,←i9]at hR
  have br:=WK bx tD hy
  have ako:(ZX.N x+1-ZX.N y)*(s+n+1)≤22*4500000000:=Nat.mul_le_mul (by have:ZX.N x=x.l.length:=rfl;omega) (by omega)
  have hrz:NT x.l y.l=(qX (rz x y)).l:=by
   obtain⟨YT,hN,_⟩:=tF (a:=x) hy
   obtain⟨m,q,hm,e⟩:=adT y.c (ZX.aH.1 hy) (x.l.length+1) x.l x.c (by omega)
   rw [←YT]at e
   exact adU x.c y.c (ZX.aH.1 hy) (rz x y).c hN hm e
  rw [hrz]at hR
  have hNg:=G1 (x:=(qX (rz x y)).l) (PB.of (LD (jA br)) (by omega) (by omega))
  have e3:gV (qX (rz x y)).l=(nx x y).l:=rfl
  rw [e3]at hNg
  have JO:=Z0 (a:=x) hy
  have hp2:=hp.step JO
  have bn:=WL bx tD hy
  have hch:L ++ [y]++uZ (ZX.N (nx x y)) y (nx x y)=C:=by
   rw [←SY]
   obtain⟨j,hj⟩:∃j,ZX.N y=j+1:=⟨ZX.N y-1,by have:=ZX.aH.1 hy;have:ZX.N y=y.l.length:=rfl;omega⟩
   rw [hj,uZ,if_neg (by omega),DR (k:=j) (j:=ZX.N (nx x y)) (by omega) (Nat.le_refl _)]
   simp
  generalize (qX (rz x y)).l=pl at *
  generalize hnx:nx x y=nn at *
  refine W.skip ?_
  refine W.block ?_
  refine W.sr ?_
  simp (disch:=omega) [gw,FN,OV,hLl]
  refine bL [4,5,7] ?_
  refine aJ [5,7,8] hR ?_
  refine W.cC (fun K hK=>?_)
  simp (disch:=omega) [gw]
  refine cB hNg ?_
  refine hK _ ⟨ZX.N nn,_,aC _ [4,5,7],JO,L ++ [y],y,nn,i+1,_,v18,e18,_,_,_,rfl,by simp;first | exact rfl | skip,by simp;first | exact rfl | skip,by simp [hL],hch,rfl,tD.mono (by omega) (Nat.le_refl _),bn,hp2,by omega⟩
 ·have hy:y=0:=by
   refine Classical.byContradiction fun h0=>?_
   have h1:=ZX.aH.1 h0
   have h2:ZX.N y=y.l.length:=rfl
   simp at h;rw [h2,h]at h1;simp at h1
  subst hy
  rw [kQ,List.append_nil]at SY
  subst SY
  have xL:List.take (i+1) L=L:=List.take_of_length_le (by omega)
  refine eV ?_
  refine W.I9 16 (by rw [FN];simp) (fun K hK=>?_)
  simp [FN]
  refine hK _ ?_
  have at5:FC rows 16 18=some ⟨v18,e18,1,[[aI zp L]]⟩:=by
   simp [OV,FN,hLl,xL]
  clear FN OV
  generalize FC rows 16=wH at *
  refine aA [2,3] ?_
  refine W.ret ?_
  simp [go,at5]
theorem ad7{n:Nat}(hn:n≤20):∀(j s:Nat) (x g:ZX),BZ s n x→BZ s n g→yG 4500000000 n s x g → ∀p∈uZ j x g,BZ 4500000000 n p
 | 0,_,_,_,_,_,_,p,hp=>by cases hp
 | j+1,s,x,g,bx,bg,hP,p,hp=>by
  have hs:=hP.le
  rw [uZ]at hp
  split at hp
  ·cases hp
  ·rename_i h0
   have h0':g≠0:=ZX.aH.2 (Nat.pos_of_ne_zero h0)
   rcases List.mem_cons.1 hp with rfl | hp
   ·exact bg.mono (by omega) (Nat.le_refl _)
   ·exact ad7 hn j _ g (nx x g) (bg.mono (by omega) (Nat.le_refl _)) (WL bx bg h0') (hP.step (Z0 h0')) p hp
theorem WU:∀(j:Nat) (x g:ZX),(uZ j x g).length≤j
 | 0,_,_=>Nat.le_refl _
 | j+1,x,g=>by
  rw [uZ]
  split
  ·simp
  ·simp only [List.length_cons];have:=WU j g (nx x g);omega
theorem Ch.all{s n:Nat}{f:ZX}(h:Ch s n f):(∀p∈aT f,BZ 4500000000 n p)∧(aT f).length≤21:=by
 have hp:=h.pot
 have hs:=hp.le
 have hn:=h.hn
 refine⟨fun p hq=>?_,?_⟩
 ·rcases List.mem_cons.1 hq with rfl | hq
  ·exact h.bz.mono (by omega) (Nat.le_refl _)
  ·exact ad7 hn _ _ _ _ (h.bz.mono (by omega) (Nat.le_refl _)) (jA (h.bz.bX (by omega))) hp p hq
 ·have:=WU (ZX.N f) f (qX (bX f))
  have h2:=h.bz.N
  show(f::uZ (ZX.N f) f (qX (bX f))).length≤21
  simp only [List.length_cons];omega
theorem ah8{a u v:ZX}{c:Int}(na:Nf a)(hc:c≠0)(h:u*a+v*bX a=K c):sq a=a:=at4 na.ne na fun p hp=>by
 have hm:mu p a≤1:=by
  rcases Nat.lt_or_ge (mu p a) 2 with h1 | h1
  ·omega
  ·exfalso
   obtain⟨m,hmm⟩:∃m,mu p a=m+1:=⟨mu p a-1,by omega⟩
   obtain⟨_,h2⟩:=yF hp na.ne hmm
   have d1:dv p a:=by have:=(kZ hp na.ne).1 (show 1≤mu p a by omega);rwa [show p^1=p by rw [pow_succ',eH];grind]at this
   have hd:bX a≠0:=fun h0=>by rw [h0]at h2;have:mu p (0:ZX)=m:=h2;have h9:=(yF hp na.ne hmm).1;exact h9 h0
   have d2:dv p (bX a):=by have:=(kZ hp hd).1 (show 1≤mu p (bX a)by omega);rwa [show p^1=p by rw [pow_succ',eH];grind]at this
   have d3:dv p (K c):=by rw [←h];exact(d1.mul_left u).add (d2.mul_left v)
   have h3:=d3.nW (pH hc)
   have h4:=hp.deg
   rw [N_K hc]at h3
   omega
 omega
theorem bA(q:Rat):dM q.num q.den=q:=by
 rw [dM,if_neg (by have:=q.den_nz;omega)]
 exact Rat.num_divInt_den q
theorem TP(n d:Int):(sml n d).num.natAbs≤30∧((sml n d).den:Int).natAbs≤6:=by
 have h1:=Int.emod_nonneg n (show (61:Int)≠0 by decide)
 have h2:=Int.emod_lt_of_pos n (show (0:Int)<61 by decide)
 have h3:=Int.emod_nonneg d (show (6:Int)≠0 by decide)
 have h4:=Int.emod_lt_of_pos d (show (0:Int)<6 by decide)
 unfold sml
 rw [p0 _ _ (by omega),p7 _ _ (by omega)]
 rw [if_neg (by omega),if_neg (by omega)]
 refine⟨Nat.le_trans (Int.natAbs_ediv_le_natAbs _ _) (by omega),Nat.le_trans (Int.natAbs_ediv_le_natAbs _ _) (by omega)⟩
structure SQ(u:Nat)(q:Rat):Prop where
 n2:sz 2 q.num≤u
 d2:sz 2 (q.den:Int)≤u
 hu:1≤u
theorem SQ.nL{u:Nat}{q:Rat}(h:SQ u q):sz LL q.num≤u:=Nat.le_trans (DN _) h.n2
theorem SQ.dL{u:Nat}{q:Rat}(h:SQ u q):sz LL (q.den:Int)≤u:=Nat.le_trans (DN _) h.d2
theorem ad8(n d:Int):SQ 5 (sml n d):=by
 obtain⟨h1,h2⟩:=TP n d
 exact⟨nP (by omega),nP (by omega),by decide⟩
section
variable {c:List ZX} {n u:Nat} {q:Rat} (hb:∀p∈c,BZ 4500000000 n p) (hn:n≤20) (hl:c.length≤21) (hq:SQ u q) (hu:u≤1000000000)
include hb hn hl hq hu
theorem ad9:aD env.P 164 [aI zq c,R2 q.num q.den] (.int .i64 (vr (oH c q.num q.den))):=OR (by omega) fun p hp=>by
 have hmul:n*(u+1)≤20*(u+1):=Nat.mul_le_mul_right _ hn
 exact yJ (hb p hp) hq.n2 hq.d2 hq.hu (by omega) (by show _<137438953472;omega)
theorem aea:aD env.P 178 [CH c,T2 q.num q.den] (.int .i64 (vr (oH c q.num q.den))):=TL (by omega) fun p hp=>by
 have hmul:n*(u+1)≤20*(u+1):=Nat.mul_le_mul_right _ hn
 exact yN (LD (hb p hp)) p.c hq.nL hq.dL hq.hu (by omega) (by omega) (by omega) (bA q) ⟨hq.nL,hq.dL⟩
end
theorem pbs{c:List ZX}{n:Nat}(hb:∀p∈c,BZ 4500000000 n p)(hn:n≤20):∀p∈c,PB p.l:=fun p hp=>(hb p hp).pb (by decide) (by omega)
theorem aeb{α:Type}{g:α→List PV}{l:List α}(hS:aD env.P 74 [aI g l] (.sl [])):aD env.P 73 [aI g l] (.eB [.jF, .int .i64 2]):=by
 refine bY [(0,aI g l)] Tryz.func73 ?_
 refine aA [0] ?_
 refine aJ [4] hS ?_
 refine aL [4,14] ?_
 refine bC ?_ ?_<;>intro h
 ·refine aA [2,3] ?_
  exact bV
 ·simp at h
theorem ah9:sq 0=0:=by unfold sq;rw [if_pos (by decide),iP]
theorem aia:aD env.P 73 [.sl []] (.eB [.jF, .int .i64 2]):=by
 have hS:=qE (a:=0) (s:=1) (n:=1) ⟨⟨by decide,fun c hc=>by cases hc⟩,by decide,by decide,by decide⟩
 rw [ah9]at hS
 exact aeb (g:=ie) (l:=[]) hS
theorem aib:(PV.ag [.bool false, .sl [], .bool false, .sl []])=T2 0 0:=rfl
structure MK(a:ZX)(c:List ZX):Prop where
 to:aD env.P 33 [PI a.l] (Po a.l)
 new:aD env.P 73 [Po a.l] (.eB [CH c, .int .i64 0])
 chain:aD env.P 85 [PI a.l] (aI zq c)
 bd:∀p∈c,BZ 4500000000 20 p
 len:c.length≤21
theorem MK.of{s n:Nat}{a:ZX}(h:nX s n a)(h0:a≠0)(qF:1≤n)(h1:1≤s):MK a (aT (sq a)):=by
 have hC:=h.ch h0 qF
 obtain⟨hb,hl⟩:=hC.all
 have hqb:=h.qW
 have hs:s<1099511627776:=by unfold qb at hqb;omega
 have hn:=h.hn
 exact⟨tH h.bz hs (by omega),KI (qE h) hC (z8 h0).1,u9 h h0 qF h1,fun p hp=>(hb p hp).mono (Nat.le_refl _) hn,hl⟩
theorem oI(a b:Nat):(2:Rat)^(a+b)=2^a*2^b:=by
 induction b with
 | zero=>simp
 | succ b ih=>rw [←Nat.add_assoc,Rat.pow_succ,Rat.pow_succ,ih];grind
theorem two_pow_pos(a:Nat):(0:Rat)<2^a:=Rat.pow_pos (by decide)
theorem oJ:∀a:Nat,(1:Rat)≤2^a
 | 0=>by simp
 | a+1=>by
  have:=oJ a
  rw [Rat.pow_succ];grind
theorem lP{a b:Nat}(h:a≤b):(2:Rat)^a≤2^b:=by
 obtain⟨c,rfl⟩:=Nat.exists_eq_add_of_le h
 rw [oI]
 have h1:=oJ c
 have h2:=Rat.mul_le_mul_of_nonneg_left h1 (Rat.le_of_lt (two_pow_pos a))
 grind
theorem OW{c:Int}{s:Nat}(h:c.natAbs<2^s):Ab (c:Rat) (2^s):=by
 have h1:((2^s:Int):Rat)=2^s:=by rw [Rat.intCast_pow];rfl
 have h2:(2^s:Int)=((2^s:Nat):Int):=by rw [Int.natCast_pow];rfl
 constructor
 ·rw [←h1,←Rat.intCast_neg]
  exact Rat.intCast_le_intCast.2 (by omega)
 ·rw [←h1]
  exact Rat.intCast_le_intCast.2 (by omega)
theorem aks{c:Int}{s:Nat}(h:sz 2 c≤s):Ab (c:Rat) (2^s):=
 OW (Nat.lt_of_lt_of_le (iH (b:=2) (by decide) c) (Nat.pow_le_pow_right (by decide) h))
theorem BZ.ab{s n:Nat}{a:ZX}(h:BZ s n a):∀c∈a.l,Ab (c:Rat) (2^s):=fun c hc=>aks (h.sz c hc)
theorem KJ(s β:Nat):∀k,FJ (2^s) (2^β) k=2^(s+k*(β+2))
 | 0=>by simp [FJ]
 | k+1=>by
  rw [FJ,KJ s β k,show s+(k+1)*(β+2)=s+k*(β+2)+β+1+1 by rw [Nat.add_mul];omega,Rat.pow_succ,Rat.pow_succ,oI _ β]
  grind
theorem BZ.azf{s n β:Nat}{a:ZX}(h:BZ s n a){t:Rat}(ht:Ab t (2^β)):Ab (e t a) (2^(s+n*(β+2))):=by
 have h1:=WO (S:=2^s) (B:=2^β) (Rat.le_of_lt (two_pow_pos s)) (oJ β) ht a.l h.ab
 rw [KJ]at h1
 exact h1.mono (lP (by have:=Nat.mul_le_mul_right (β+2) h.len;omega))
theorem WV{s' N:Nat}{y:List Int}(tD:Bd 2 s' N y)(cy:Cn y)(hy:0<y.length):∀(n j s:Nat) (x:List Int),Cn x→x.length<n→Bd 2 s N x→x.length+1≤y.length+j →
  ∃(m:Int) (q:List Int),0<m∧sz 2 m≤j*s'+1∧Bd 2 (s+j*(2*s'+N+2)) N q ∧ ∀t,m*V t x=V t q*V t y+V t (rq y n x)
 | 0,j,s,x,_,h,_,_=>by omega
 | n+1,j,s,x,cx,h,bx,hj=>by
  rw [rq]
  split
  ·exact⟨1,[],by decide,Nat.le_trans (dE (k:=1) (by decide) (by decide)) (by omega),⟨by simp,fun c hc=>by cases hc⟩,fun t=>by simp [V]⟩
  ·rename_i h1
   obtain⟨j,rfl⟩:∃i,j=i+1:=⟨j-1,by omega⟩
   have hl:=tE hy (show y.length≤x.length by omega)
   have hb:=TA tD bx hy (show y.length≤x.length by omega)
   obtain⟨m,q,hm,hms,hq,h4⟩:=WV tD cy hy n j _ (WH y x) (Cn.fF _ _) (by omega) hb (by omega)
   have y7:=cX cy hy
   have e1:(j+1)*s'=j*s'+s':=by rw [Nat.add_mul];omega
   have e2:(j+1)*(2*s'+N+2)=j*(2*s'+N+2)+(2*s'+N+2):=by rw [Nat.add_mul];omega
   have e3:j*s'≤j*(2*s'+N+2):=Nat.mul_le_mul_left _ (by omega)
   have sx:sz 2 (xP (lead y)*lead x)≤s:=by
    refine Nat.le_trans (c7 (b:=2) (by decide) ?_) (fX bx)
    rw [Int.natAbs_mul]
    have:(xP (lead y)).natAbs=1:=by unfold xP;split<;>rfl
    rw [this,Nat.one_mul];exact Nat.le_refl _
   have jD:=(Bd.bB (b:=2) (by decide) (Bd.q9 (b:=2) sx (x.length-y.length)) hms)
   have hlen:=bx.len
   refine⟨m*(lead y).natAbs,iI q (bB (q9 (x.length-y.length) (xP (lead y)*lead x)) m),Int.mul_pos hm (by omega),?_,?_,fun t=>?_⟩
   ·have h8:sz 2 ((lead y).natAbs:Int)≤s':=Nat.le_trans (c7 (b:=2) (by decide) (by simp)) (fX tD)
    have:=cD (b:=2) (by decide) hms h8
    omega
   ·refine(Bd.iI (b:=2) (s:=s+(j+1)*(2*s'+N+2)-1) (by decide) (hq.mono (by omega) (Nat.le_refl _)) (jD.mono (by omega) (by omega))).mono (by omega) (Nat.le_refl _)
   ·have h5:=adP t y x
    have h6:=h4 t
    rw [rV,cM,oA]
    have:m*((lead y).natAbs:Int)*V t x=m*(((lead y).natAbs:Int)*V t x):=by grind
    rw [this,h5]
    grind
theorem anT{s n:Nat}{a b:ZX}(ha:BZ s n a)(hb:BZ s n b)(h0:b≠0):∃(m:Int) (q:ZX),0<m∧sz 2 m≤(n+1)*s+1∧BZ (s+(n+1)*(2*s+n+2)) n q∧((nx a b=0∧K m*a=q*b)∨(nx a b≠0 ∧ ∃k:Int,0<k∧K m*a=q*b-K k*nx a b)):=by
 obtain⟨YT,hN,_⟩:=tF (a:=a) h0
 obtain⟨m,q,hm,hms,hq,e⟩:=WV hb b.c (ZX.aH.1 h0) (a.l.length+1) (n+1) s a.l a.c (by omega) ha (by have:=ha.len;have:=ZX.aH.1 h0;show a.l.length+1≤b.l.length+(n+1);omega)
 rw [←YT]at e
 have e1:K m*a=ZX.of q*b+rz a b:=ZX.ext fun t=>by rw [dR,vJ,mL,dR,FF];exact e t
 refine⟨m,ZX.of q,hm,hms,Bd.cut hq,?_⟩
 by_cases hr:rz a b=0
 ·left
  refine⟨?_,by rw [e1,hr];grind⟩
  exact ZX.ext fun t=>by
   show V t (gV (j6 (rz a b).l))=_
   rw [hr];rfl
 ·right
  have hrn:(rz a b).l ≠ []:=sC hr
  have hp:=DO (rz a b).c hrn
  have hg:=cN (rz a b).c hrn
  have hnx:K (bQ (rz a b).l:Int)*nx a b = -(rz a b):=ZX.ext fun t=>by
   rw [dR,vJ,G3]
   show _*V t (gV (j6 (rz a b).l))=_
   rw [CN]
   have h2:V t (rz a b).l=V t (j6 (rz a b).l)*(bQ (rz a b).l:Int):=by rw [←eA,hp]
   rw [h2];grind
  refine⟨fun h=>hr ?_,_,Int.natCast_pos.2 (Nat.pos_of_ne_zero hg),by rw [hnx,e1];grind⟩
  rw [h]at hnx
  have:(rz a b) = -(K (bQ (rz a b).l:Int)*0):=by rw [hnx];grind
  rw [this];grind
theorem OX{a b:ZX}(hb:b≠0)(hg:gz a b=1)(hd:dv b a):∃c:Int,c≠0∧b=K c:=by
 have h1:=(eT a b).least hd (dv.refl b)
 rw [hg]at h1
 have h2:=h1.nW qA
 rw [ZX.wS]at h2
 have:=ZX.aH.1 hb
 exact ZX.mA (by omega)
def LF(C n β:Nat):Nat:=C+(n+1)*(2*C+n+2)+n*(β+2)+2
theorem WW{C n β:Nat}(hn:n≤20):∀(k s:Nat) (a b:ZX),ZX.N b≤k→b≠0→BZ s n a→BZ s n b→yG C n s a b→gz a b=1→StC (2^LF C n β) (2^β) (a::uZ k a b) ∧ ∀p∈uZ k a b,BZ C n p
 | 0,s,a,b,hk,h0,_,_,_,_=>absurd hk (by have:=ZX.aH.1 h0;omega)
 | k+1,s,a,b,hk,h0,ha,hb,hp,hg=>by
  have hs:=hp.le
  have hNb:=ZX.aH.1 h0
  obtain⟨m,q,hm,hms,hq,hr⟩:=anT ha hb h0
  rw [uZ,if_neg (by omega)]
  have hbC:BZ C n b:=hb.mono (by omega) (Nat.le_refl _)
  rcases hr with ⟨hz,e1⟩ | ⟨hz,kk,hkk,e1⟩
  ·rw [hz,kQ]
   exact⟨OX h0 hg ⟨m,by omega,q,e1⟩,fun p hp=>by
    simp only [List.mem_cons,List.not_mem_nil,or_false]at hp
    subst hp;exact hbC⟩
  ·have hN:=Z0 (a:=a) h0
   have oO:gz b (nx a b)=1:=by
    rw [←hg]
    exact(J7 (c:=m) (k := -kk) (q:=q) (by omega) (by omega) (by rw [e1,show K (-kk) = -K kk from ZX.ext fun t=>by rw [vJ,G3,vJ]];grind)).symm
   obtain⟨ih,ih2⟩:=WW hn k _ b (nx a b) (by omega) hz (hb.mono (Nat.le_add_right _ _) (Nat.le_refl _)) (WL ha hb h0) (hp.step hN) oO
   refine⟨?_,fun p hp=>?_⟩
   ·obtain⟨k2,rfl⟩:∃k2,k=k2+1:=⟨k-1,by have:=ZX.aH.1 hz;omega⟩
    rw [uZ,if_neg (by have:=ZX.aH.1 hz;omega)]at ih ⊢
    have c1:(n+1)*s≤(n+1)*(2*C+n+2):=Nat.mul_le_mul_left _ (by omega)
    have c2:(n+1)*(2*s+n+2)≤(n+1)*(2*C+n+2):=Nat.mul_le_mul_left _ (by omega)
    refine⟨ih,m,kk,q,hm,hkk,e1,?_,fun t ht=>?_⟩
    ·have h1:=(aks hms).2
     have h2:=lP (show (n+1)*s+1+1≤LF C n β by unfold LF;omega)
     rw [Rat.pow_succ]at h2
     grind
    ·have h1:=(BZ.azf hq ht)
     have h2:=(Ab.mul (x:=2) (M:=2) ⟨by decide,by decide⟩ h1)
     refine h2.mono ?_
     have h3:=lP (show s+(n+1)*(2*s+n+2)+n*(β+2)+1≤LF C n β by unfold LF;omega)
     rw [Rat.pow_succ]at h3
     grind
   ·rcases List.mem_cons.1 hp with rfl | hp
    ·exact hbC
    ·exact ih2 p hp
theorem OY:∀(k:Nat) (a b:ZX),(uZ k a b).length≤ZX.N b
 | 0,a,b=>by simp [uZ]
 | k+1,a,b=>by
  rw [uZ]
  split
  ·simp
  ·rename_i h0
   have:=Z0 (a:=a) (ZX.aH.2 (Nat.pos_of_ne_zero h0))
   have:=OY k b (nx a b)
   simp only [List.length_cons];omega
theorem at6{a:ZX}(ha:a≠0):∃c:Int,0<c∧a=K c*qX a:=by
 have hp:=DO a.c (sC ha)
 refine⟨(bQ a.l:Int),Int.natCast_pos.2 (Nat.pos_of_ne_zero (cN a.c (sC ha))),ZX.ext fun t=>?_⟩
 rw [dR,vJ]
 show _=_*V t (j6 a.l)
 have h2:V t a.l=V t (j6 a.l)*(bQ a.l:Int):=by rw [←eA,hp]
 rw [h2];grind
theorem aic{C s n β:Nat}{f:ZX}(hn:n≤20)(hf:f≠0)(hb:BZ (s+5) n f)(hp:yG C n (s+5) f (qX (bX f)))(bd:BZ (s+5) n (qX (bX f)))(hg:gz f (bX f)=1):StC (2^LF C n β) (2^β) (aT f)∧(∀p∈aT f,BZ C n p)∧(aT f).length≤n+1 ∧ ∀g k,uZ (ZX.N f) f (qX (bX f))=g::k → ∃c:Int,0<c∧bX f=K c*g:=by
 have hs:=hp.le
 have hfC:BZ C n f:=hb.mono (by omega) (Nat.le_refl _)
 have hNf:=hb.N
 have h1:=oD f
 have h2:ZX.N (qX (bX f))≤ZX.N (bX f):=l9 _
 by_cases h0:bX f=0
 ·have zN:qX (bX f)=0:=by rw [h0];exact ZX.ext fun t=>rfl
  have hc:aT f = [f]:=by unfold aT;rw [zN,kQ]
  rw [hc]
  have hN1:ZX.N f≤1:=Classical.byContradiction fun h=>J0 (a:=f) (by omega) h0
  refine⟨ZX.mA (by have:=ZX.aH.1 hf;omega),fun p hp=>by
   simp only [List.mem_cons,List.not_mem_nil,or_false]at hp
   subst hp;exact hfC,by simp,fun g k h=>?_⟩
  rw [zN,kQ]at h;cases h
 ·obtain⟨c,hc,e⟩:=at6 h0
  have zN:qX (bX f)≠0:=fun h=>h0 (by rw [e,h];grind)
  have oO:gz f (qX (bX f))=1:=by
   rw [←hg]
   refine DM (dv.refl f) (dv.refl f) ⟨1,by decide,K c,by rw [e];show(1:ZX)*_=_;grind⟩ ⟨c,by omega,1,by grind⟩
  obtain⟨g1,g2⟩:=WW (β:=β) hn (ZX.N f) (s+5) f (qX (bX f)) (by omega) zN hb bd hp oO
  refine⟨g1,fun p hp=>?_,?_,fun g k h=>?_⟩
  ·rcases List.mem_cons.1 hp with rfl | hp
   ·exact hfC
   ·exact g2 p hp
  ·have:=OY (ZX.N f) f (qX (bX f))
   show(f::uZ (ZX.N f) f (qX (bX f))).length≤_
   simp only [List.length_cons]
   omega
  ·obtain⟨j,hj⟩:∃j,ZX.N f=j+1:=⟨ZX.N f-1,by have:=ZX.aH.1 hf;omega⟩
   rw [hj,uZ,if_neg (by have:=ZX.aH.1 zN;omega)]at h
   cases h
   exact⟨c,hc,e⟩
theorem WX(μ:Nat):∀k,(2:Rat)^(μ*k)*AR (2^μ) k=1
 | 0=>by simp [AR]
 | k+1=>by
  have h1:=WX μ k
  have h2:AR (2^μ) (k+1)=AR (2^μ) k/2^μ:=rfl
  have h3:AR ((2:Rat)^μ) k/2^μ*2^μ=AR (2^μ) k:=Rat.div_mul_cancel (Rat.ne_of_gt (two_pow_pos μ))
  rw [h2,Nat.mul_add,Nat.mul_one,oI]
  grind
def jb(C n β:Nat):Nat:=(n+1)*LF C n β+C+n*(β+2)+1
theorem WY{C s n β:Nat}{f:ZX}(hn:n≤20)(hf:f≠0)(hb:BZ (s+5) n f)(hp:yG C n (s+5) f (qX (bX f)))(bd:BZ (s+5) n (qX (bX f)))(hg:gz f (bX f)=1){δ:Rat}(hδ:δ*2^jb C n β≤1):Lcl (aT f) f (2^β) δ:=by
 obtain⟨h1,h2,h3,h4⟩:=aic (β:=β) hn hf hb hp bd hg
 have hM:(2:Rat)≤2^LF C n β:=by
  have:=lP (show 1≤LF C n β by unfold LF;omega)
  rw [Rat.pow_one]at this
  exact this
 refine StC.loc (Q:=2^(C+n*(β+2))) hM (oJ β) (Rat.le_of_lt (two_pow_pos C)) h1 (fun p hp=>⟨(h2 p hp).ab,?_⟩) h4 ?_
 ·rw [KJ]
  exact lP (by have:=Nat.mul_le_mul_right (β+2) (h2 p hp).len;omega)
 ·have e1:=WX (LF C n β) (aT f).length
  have hε:=w5 hM (aT f).length
  have h5:LF C n β*(aT f).length+(C+n*(β+2))+1≤jb C n β:=by
   have:=Nat.mul_le_mul_left (LF C n β) h3
   rw [Nat.mul_comm (LF C n β) (n+1)]at this
   unfold jb;omega
  have h6:=lP h5
  rw [Rat.pow_succ,oI]at h6
  have hA:=two_pow_pos (LF C n β*(aT f).length)
  have hB:=two_pow_pos (C+n*(β+2))
  show δ*2^(C+n*(β+2))<AR (2^LF C n β) (aT f).length
  generalize (2:Rat)^(LF C n β*(aT f).length)=A at *
  generalize (2:Rat)^(C+n*(β+2))=Q at *
  generalize AR ((2:Rat)^LF C n β) (aT f).length=ε at *
  generalize (2:Rat)^jb C n β=J at *
  by_cases h0:0<δ
  ·have h7:=Rat.mul_le_mul_of_nonneg_left h6 (Rat.le_of_lt h0)
   have h8:δ*Q*A≤1/2:=by grind
   refine Rat.lt_of_mul_lt_mul_right (c:=A) ?_ (Rat.le_of_lt hA)
   grind
  ·have h7:=Rat.mul_le_mul_of_nonneg_right (show δ≤0 by grind) (Rat.le_of_lt hB)
   grind
theorem KK:∀(l:List Int) (n:Nat) (p:Int),(l.foldl u6 (n,p)).1=n+FK p l
 | [],n,p=>rfl
 | s::l,n,p=>by
  have h:u6 (n,p) s=if s=0 then(n,p)else(if p≠0∧s≠p then n+1 else n,s):=rfl
  rw [List.foldl_cons,h]
  simp only [FK]
  split
  ·exact KK l n p
  ·split<;>rw [KK l]<;>omega
theorem TQ(l:List Int):vr l=FK 0 l:=by
 rw [vr,KK];omega
theorem akt{n d:Int}{q:Rat}(h:(n:Rat)=q*d):∀x:List Int,((hm n d x).1:Rat)*d=qv q x*(d:Rat)^x.length∧((hm n d x).2:Rat)=(d:Rat)^x.length
 | []=>by
  refine⟨?_,?_⟩
  ·show((0:Int):Rat)*d=0*_
   rw [Rat.intCast_zero,Rat.zero_mul,Rat.zero_mul]
  ·show((1:Int):Rat)=(d:Rat)^0
   rw [Rat.intCast_one,Rat.pow_zero]
 | a::l=>by
  obtain⟨h1,h2⟩:=akt h l
  have e:hm n d (a::l)=((hm n d l).1*n+a*(hm n d l).2,(hm n d l).2*d):=rfl
  rw [e]
  simp only [qv,List.length_cons,Rat.pow_succ,Rat.intCast_add,Rat.intCast_mul]
  rw [h,h2]
  refine⟨?_,rfl⟩
  have:(((hm n d l).1:Rat)*(q*d)+a*(d:Rat)^l.length)*d=((hm n d l).1:Rat)*d*(q*d)+a*((d:Rat)^l.length*d):=by grind
  rw [this,h1];grind
theorem aab(v:Int):v.sign=b8 (v:Rat):=by
 rcases Int.lt_trichotomy v 0 with h | h | h
 ·rw [Int.sign_eq_neg_one_of_neg h,fZ (Rat.intCast_neg_iff.2 h)]
 ·subst h;decide
 ·rw [Int.sign_eq_one_of_pos h,eI (Rat.intCast_pos.2 h)]
theorem BI(p:ZX)(q:Rat):AQ p.l q.num q.den=b8 (e q p):=by
 have hd:(0:Rat)<((q.den:Int):Rat):=Rat.intCast_pos.2 (by have:=q.den_pos;omega)
 have hq:((q.num:Int):Rat)=q*((q.den:Int):Rat):=by
  have h1:q=(q.num:Rat)/((q.den:Int):Rat):=by
   rw [←Rat.divInt_eq_div,Rat.num_divInt_den]
  have h2:=Rat.div_mul_cancel (a:=(q.num:Rat)) (Rat.ne_of_gt hd)
  rw [←h1]at h2
  exact h2.symm
 have h1:=(akt hq p.l).1
 show(hm q.num q.den p.l).1.sign=b8 (qv q p.l)
 rw [aab]
 have h2:b8 (((hm q.num q.den p.l).1:Rat)*((q.den:Int):Rat))=b8 (qv q p.l*((q.den:Int):Rat)^p.l.length):=by rw [h1]
 rw [tG,tG,eI hd,eI (Rat.pow_pos hd)]at h2
 omega
theorem DW(c:List ZX)(q:Rat):vr (oH c q.num q.den)=vt c q:=by
 rw [TQ]
 unfold vt oH FL
 congr 1
 exact List.map_congr_left fun p _=>BI p q
theorem anU(c:List ZX):∃S:Rat,0≤S ∧ ∀p∈c,∀x∈p.l,Ab (x:Rat) S:=by
 induction c with
 | nil=>exact⟨0,Rat.le_refl,fun p hp=>by cases hp⟩
 | cons a c ih =>
  obtain⟨S,hS,h⟩:=ih
  obtain⟨A,hA,ha⟩:=KF a.l
  refine⟨S+A,by grind,fun p hp x hx=>?_⟩
  rcases List.mem_cons.1 hp with rfl | hp
  ·exact(ha x hx).mono (by grind)
  ·exact(h p hp x hx).mono (by grind)
theorem aec(c:List ZX):∃X:Rat,1≤X∧(∀t,X≤t→vt c t=vr (WS c)) ∧ ∀t,t ≤ -X→vt c t=vr (WR c):=by
 obtain⟨S,hS,h⟩:=anU c
 refine⟨S+1,by grind,fun t ht=>?_,fun t ht=>?_⟩
 ·rw [TQ]
  unfold vt WS FL
  congr 1
  exact List.map_congr_left fun p hp=>(HH hS p.c (h p hp)).1 ht
 ·rw [TQ]
  unfold vt WR FL
  congr 1
  exact List.map_congr_left fun p hp=>(HH hS p.c (h p hp)).2 ht
theorem sI{a:ZX}(ha:a≠0):Nf (sq a) ∧ ∀p,ZX.oY p→ZX.mu p (sq a)=min (ZX.mu p a) 1:=by
 have hA:=gW ha
 unfold sq
 split
 ·rename_i h
  refine⟨hA,fun p hp=>?_⟩
  obtain⟨c,hc,rfl⟩:=ZX.mA (x:=a) (by have:=ZX.aH.1 ha;omega)
  rw [OC hp ha,ZX.ZS hp hc];rfl
 ·exact⟨adF hA,fun p hp=>by rw [adH hA hp,OC hp ha]⟩
theorem aed{a:ZX}(ha:a≠0):gz (sq a) (bX (sq a))=1:=by
 obtain⟨h1,h2⟩:=sI ha
 refine Nf.sF (WA h1.ne) Nf.one fun p hp=>?_
 have e1:mu p (1:ZX)=0:=ZS hp (by decide)
 have h3:=akk h1.ne hp
 rw [h2 p hp]at h3
 rw [e1]
 show mu p (gd (sq a))=0
 rw [h3]
 omega
theorem KL{a:ZX}(ha:a≠0):dv (sq a) a:=(z8 ha).2.trans (G6 a).2
theorem Lcl.mono{L:List ZX}{f:ZX}{B C δ:Rat}(h:Lcl L f B δ)(hc:C≤B):Lcl L f C δ:=
 ⟨fun s t hs ht=>h.turns s t (hs.mono hc) (ht.mono hc),fun s t hs ht=>h.simple s t (hs.mono hc) (ht.mono hc)⟩
theorem TR(B:Rat):∃β:Nat,B≤2^β:=by
 have h1:=Rat.lt_floor_add_one B
 refine⟨(B.floor+1).toNat,Rat.le_trans (Rat.le_of_lt h1) ?_⟩
 have h2:((2^(B.floor+1).toNat:Int):Rat)=2^(B.floor+1).toNat:=by rw [Rat.intCast_pow];rfl
 rw [←h2]
 refine Rat.intCast_le_intCast.2 ?_
 have h3:(B.floor+1).toNat<2^(B.floor+1).toNat:=Nat.lt_two_pow_self
 have h4:((2^(B.floor+1).toNat:Nat):Int)=2^(B.floor+1).toNat:=by rw [Int.natCast_pow];rfl
 omega
theorem Ch.aac{s n:Nat}{f:ZX}(h:Ch s n f)(hf:f≠0)(hg:gz f (bX f)=1):AS (aT f) f:=⟨fun B hB=>by
 have hn:=h.hn
 obtain⟨β,hβ⟩:=TR B
 have bd:BZ (s+5) n (bX f):=h.bz.bX (by omega)
 have hJ:=two_pow_pos (jb 4500000000 n β)
 have hJ1:(1:Rat)/2^jb 4500000000 n β*2^jb 4500000000 n β=1:=Rat.div_mul_cancel (Rat.ne_of_gt hJ)
 refine⟨1/2^jb 4500000000 n β,(Rat.lt_div_iff hJ).2 (by grind),?_⟩
 exact Lcl.mono (WY hn hf (h.bz.mono (by omega) (Nat.le_refl _)) h.pot (jA bd) hg (by rw [hJ1];exact Rat.le_refl)) hβ⟩
def mH(t:Rat):ZX:=of [-t.num,(t.den:Int)]
theorem anV(s t:Rat):e s (mH t)=((t.den:Int):Rat)*(s-t):=by
 rw [mH,atZ,Rat.intCast_neg]
 have hd:(0:Rat)<((t.den:Int):Rat):=Rat.intCast_pos.2 (by have:=t.den_pos;omega)
 have hq:((t.num:Int):Rat)=t*((t.den:Int):Rat):=by
  have h1:t=(t.num:Rat)/((t.den:Int):Rat):=by
   rw [←Rat.divInt_eq_div,Rat.num_divInt_den]
  have h2:=Rat.div_mul_cancel (a:=(t.num:Rat)) (Rat.ne_of_gt hd)
  rw [←h1]at h2
  exact h2.symm
 rw [hq];grind
theorem yO(t:Rat):ZX.N (mH t)=2:=by
 have:aP [-t.num,(t.den:Int)] = [-t.num,(t.den:Int)]:=iA (x:=(t.den:Int)) (by have:=t.den_nz;omega) [-t.num]
 show(aP [-t.num,(t.den:Int)]).length=2
 rw [this];rfl
theorem aad{L:List ZX}{f:ZX}(h:AS L f){b:Rat}(hb:∀a,Bg a b f):vr (WR L)=vt L b:=by
 obtain⟨X,hX,_,h2⟩:=aec L
 by_cases xV:b ≤ -X
 ·exact(h2 b xV).symm
 ·rw [←h2 (-X) Rat.le_refl]
  exact h.bg (hb (-X)) (Rat.not_le.1 xV)
theorem TS{L:List ZX}{f:ZX}(h:AS L f){a:Rat}(ha:∀b,Bg a b f):vr (WS L)=vt L a:=by
 obtain⟨X,hX,h1,_⟩:=aec L
 by_cases xV:X≤a
 ·exact(h1 a xV).symm
 ·rw [←h1 X Rat.le_refl]
  exact(h.bg (ha X) (Rat.not_le.1 xV)).symm
theorem j3(p q:Rat):(dF (p.num*q.den) (q.num*p.den)<0)↔p<q:=by
 rw [nC,Rat.lt_iff]
theorem aee(C:List ZX)(q:Rat):vt C q≤C.length:=by
 have:=DU (oH C q.num q.den)
 rw [DW]at this
 simpa [oH]using this
theorem DX{n d:Int}(h:d≠0):dM n d=(n:Rat)/d:=by rw [dM,if_neg h,Rat.divInt_eq_div]
theorem KM{n d:Int}(h:d≠0){q:Rat}(e:(n:Rat)=q*d):dM n d=q:=by
 have hd:(d:Rat)≠0:=fun h0=>h (Rat.intCast_eq_zero_iff.1 h0)
 rw [DX h,e,Rat.mul_div_cancel hd]
theorem w9(q:Rat):((q.num:Int):Rat)=q*((q.den:Int):Rat):=by
 have hd:(0:Rat)<((q.den:Int):Rat):=Rat.intCast_pos.2 (by have:=q.den_pos;omega)
 have h1:q=(q.num:Rat)/((q.den:Int):Rat):=by
  rw [←Rat.divInt_eq_div,Rat.num_divInt_den]
 have h2:=Rat.div_mul_cancel (a:=(q.num:Rat)) (Rat.ne_of_gt hd)
 rw [←h1]at h2
 exact h2.symm
theorem aid{n d:Int}(hn:sz LL n<1099511627770)(hd:sz LL d<1099511627770)(h0:d≠0):aD env.P 160 [I n,I d] (.eB [RT (dM n d), .int .i64 0]):=by
 have n1:=JG (x:=d) (by show _<_;omega)
 have n2:=JG (x:=n) (by show _<_;omega)
 have z1:=HI d
 have l1:=qJ hn hd h0
 rw [show decide (d=0)=false from decide_eq_false h0]at z1
 show aD env.P _ _ (.eB [T2 (dM n d).num (dM n d).den,_])
 replace l1:aD env.P 179 [I n,I d] (T2 (dM n d).num (dM n d).den):=l1
 generalize (dM n d).num=rn at *
 generalize ((dM n d).den:Int)=rd at *
 refine bY [(0,I n),(1,I d)] Tryz.func160 ?_
 refine aA [2,3,4] ?_
 refine W.seq ?_
 refine aJ [2,3,4] n1 ?_
 refine aJ [2,3,4,9] z1 ?_
 refine bC ?_ ?_<;>intro h
 ·simp at h
 refine W.skip ?_
 refine W.sd ?_
 simp (maxSteps:=4000000) (disch:=omega) [gw]
 refine aB n2 ?_
 simp (maxSteps:=4000000) (disch:=omega) [gw]
 refine aB l1 ?_
 simp (maxSteps:=4000000) (disch:=omega) [gw]
 (try (refine a9 (of_decide_eq_true (by kernel_rfl)) ?_));(try simp (maxSteps:=4000000) (disch:=omega) [gw]);(repeat rw [if_pos (by kernel_rfl)]);(try simp (maxSteps:=4000000) (disch:=omega) [gw])
 refine bL [4,5] ?_
 exact bV
theorem anW(p q:Rat):dM (p.num*q.den+q.num*p.den) (p.den*q.den*2)=(p+q)/2:=by
 have h1:((p.den:Int)*q.den*2)≠0:=by
  have:=p.den_nz;have:=q.den_nz
  refine Int.mul_ne_zero (Int.mul_ne_zero ?_ ?_) (by decide)<;>omega
 refine KM h1 ?_
 rw [Rat.intCast_add,Rat.intCast_mul,Rat.intCast_mul,Rat.intCast_mul,Rat.intCast_mul,w9 p,w9 q]
 have h2:(p+q)/2*2=p+q:=Rat.div_mul_cancel (by decide)
 show _=(p+q)/2*(((p.den:Int):Rat)*((q.den:Int):Rat)*2)
 generalize (p+q)/2=m at *
 grind
theorem OZ{p q:Rat}{k:Nat}(hp:sz LL p.num≤k∧sz LL (p.den:Int)≤k)(hq:sz LL q.num≤k∧sz LL (q.den:Int)≤k)(hk:k≤300000000000):aD env.P 95 [RT p,RT q] (RT ((p+q)/2)):=by
 have c1:=yL hp.1 hp.2 hq.1 hq.2 (by omega) (bA p) (bA q) hp hq
 have g1:=cD (b:=LL) fV hp.1 hq.2
 have g2:=cD (b:=LL) fV hq.1 hp.2
 have g3:=cD (b:=LL) fV hp.2 hq.2
 have s2:sz LL 2≤1:=dE (k:=1) fV (by decide)
 have g4:=cD (b:=LL) fV g3 s2
 have g5:=nE (b:=LL) fV (Nat.le_trans g1 (show k+k≤k+k from Nat.le_refl _)) (Nat.le_trans g2 (show k+k≤k+k from Nat.le_refl _))
 have a1:=VK (x:=p.num*q.den) (y:=q.num*p.den) (by show _<_;omega) (by show _<_;omega)
 have o1:=CU 2 (by decide) (by decide)
 have m1:=wF (x:=(p.den:Int)*q.den) (y:=2) (by show _<_;omega) (by show _<_;omega)
 have h1:((p.den:Int)*q.den*2)≠0:=by
  have:=p.den_nz;have:=q.den_nz
  refine Int.mul_ne_zero (Int.mul_ne_zero ?_ ?_) (by decide)<;>omega
 have l1:=qJ (n:=p.num*q.den+q.num*p.den) (d:=p.den*q.den*2) (by omega) (by omega) h1
 rw [anW]at l1
 show aD env.P _ [T2 p.num p.den,T2 q.num q.den] (T2 ((p+q)/2).num ((p+q)/2).den)
 replace l1:aD env.P 179 [I (p.num*q.den+q.num*p.den),I (p.den*q.den*2)] (T2 ((p+q)/2).num ((p+q)/2).den):=l1
 clear g1 g2 g3 g4 g5 h1 hp hq
 generalize ((p+q)/2).num=rn at *
 generalize (((p+q)/2).den:Int)=rd at *
 generalize p.num*(q.den:Int)+q.num*p.den=x4 at *
 generalize (p.den:Int)*q.den*2=x5 at *
 generalize p.num*(q.den:Int)=x1 at *
 generalize q.num*(p.den:Int)=x2 at *
 generalize (p.den:Int)*(q.den:Int)=x3 at *
 generalize p.num=pn at *
 generalize (p.den:Int)=pd at *
 generalize q.num=qn at *
 generalize (q.den:Int)=qd at *
 refine bY [(0,T2 pn pd),(1,T2 qn qd)] Tryz.func95 ?_
 refine aA [2,3,4] ?_
 refine aJ [4,5,6,7] c1 ?_
 refine W.sd ?_
 simp (maxSteps:=4000000) (disch:=omega) [gw]
 refine aB a1 ?_
 simp (maxSteps:=4000000) (disch:=omega) [gw]
 refine aB o1 ?_
 simp (maxSteps:=4000000) (disch:=omega) [gw]
 refine aB m1 ?_
 simp (maxSteps:=4000000) (disch:=omega) [gw]
 refine aB l1 ?_
 simp (maxSteps:=4000000) (disch:=omega) [gw]
 (try (refine a9 (of_decide_eq_true (by kernel_rfl)) ?_));(try simp (maxSteps:=4000000) (disch:=omega) [gw]);(repeat rw [if_pos (by kernel_rfl)]);(try simp (maxSteps:=4000000) (disch:=omega) [gw])
 refine bL [4] ?_
 exact bV
theorem aae{p:Rat}(hp:sz LL p.num<1099511627770∧sz LL (p.den:Int)<1099511627770):aD env.P 77 [RT p] (RT (-p)):=by
 have n1:=mZ hp.1 hp.2
 rw [bA]at n1
 have n2:=ajV (x:=p.num) (by show _<_;omega)
 replace n1:aD env.P 161 [T2 p.num p.den] (T2 p.num p.den):=n1
 show aD env.P _ [T2 p.num p.den] (T2 (-p).num (-p).den)
 rw [Rat.neg_num,Rat.neg_den]
 generalize -p.num=rn at *
 generalize p.num=pn at *
 generalize (p.den:Int)=pd at *
 refine bY [(0,T2 pn pd)] Tryz.func77 ?_
 refine aA [1,2] ?_
 refine aJ [1,2] n1 ?_
 refine aJ [1,2] n2 ?_
 refine aA [2] ?_
 exact bV
theorem O0{p q:Rat}(hp:ZR YY p)(hq:ZR YY q)(hs:ZR YY (p+q)):aD env.P 209 [RR p,RR q] (RR ((p+q)/2)):=by
 have a1:=wK p q hp hq
 have o1:=p8 1 2 (by decide) (by decide)
 have m1:=DA (p+q) (dM 1 2) hs ⟨by decide,by decide⟩
 have e:(p+q)*dM 1 2=(p+q)/2:=by
  rw [show dM 1 2=(1:Rat)/2 by rw [DX (by decide)];rfl];grind
 rw [e]at m1
 rw [cW]at *
 rw [cW q,cW (p+q),cW (dM 1 2)]at *
 generalize (p+q)/2=m at *
 generalize p+q=s at *
 generalize dM 1 2=hf at *
 generalize p.num=pn at *
 generalize (p.den:Int)=pd at *
 generalize q.num=qn at *
 generalize (q.den:Int)=qd at *
 generalize s.num=sn at *
 generalize (s.den:Int)=sd at *
 generalize hf.num=fn at *
 generalize (hf.den:Int)=fd at *
 rw [cW]at *
 generalize m.num=mn at *
 generalize (m.den:Int)=md at *
 refine bY [(0,R2 pn pd),(1,R2 qn qd)] Tryz.func209 ?_
 refine aA [2,3,4] ?_
 refine iB ?_
 refine cB a1 ?_
 refine cB o1 ?_
 refine bS [4] m1 ?_
 exact bV
theorem aef{d:Int}(h:sz LL d<4294967296):aD env.P 169 [I d] (RI d):=by
 have h1:=GR (decide (d<0)) (aN LL d.natAbs) (by have:sz LL d=(aN LL d.natAbs).length:=rfl;omega) (fD fV _)
 rw [show iv (decide (d<0)) (aN LL d.natAbs)=d from MW d]at h1
 exact h1
theorem aaf{p:Rat}(hp:sz LL p.num<4294967296∧sz LL (p.den:Int)<4294967296)(hY:Y p.num∧Y (p.den:Int)):aD env.P 86 [RT p] (RR p):=by
 have f1:=aef hp.1
 have f2:=aef hp.2
 have m1:=kK p.num p.den hY.1 hY.2
 rw [bA,cW]at m1
 rw [cW]
 show aD env.P _ [T2 p.num p.den] _
 replace f1:aD env.P 169 [I p.num] (RI p.num):=f1
 replace f2:aD env.P 169 [I (p.den:Int)] (RI (p.den:Int)):=f2
 generalize p.num=pn at *
 generalize (p.den:Int)=pd at *
 refine bY [(0,T2 pn pd)] Tryz.func86 ?_
 refine aA [1,2] ?_
 refine W.sd ?_
 simp (maxSteps:=4000000) (disch:=omega) [gw]
 refine aB f1 ?_
 simp (maxSteps:=4000000) (disch:=omega) [gw]
 refine aB f2 ?_
 simp (maxSteps:=4000000) (disch:=omega) [gw]
 refine aB m1 ?_
 simp (maxSteps:=4000000) (disch:=omega) [gw]
 (try (refine a9 (of_decide_eq_true (by kernel_rfl)) ?_));(try simp (maxSteps:=4000000) (disch:=omega) [gw]);(repeat rw [if_pos (by kernel_rfl)]);(try simp (maxSteps:=4000000) (disch:=omega) [gw])
 refine bL [2] ?_
 exact bV
theorem aku{x:Int}(hx:Sz x):aD env.P 158 [I x] (I (x.natAbs:Int)):=by
 have h1:=acV (decide (x<0)) (aN LL x.natAbs) hx.VJ
 rw [show V 4294967296 (aN LL x.natAbs)=(x.natAbs:Int)from kG fV _]at h1
 exact h1
def lR(x:List Int):Nat→Int
 | 0=>0
 | i+1=>if lR x i<((nth x i).natAbs:Int)then((nth x i).natAbs:Int)else lR x i
theorem aeg(x:List Int):∀i,0≤lR x i
 | 0=>Int.le_refl _
 | i+1=>by
  have:=aeg x i
  rw [lR];split<;>omega
theorem aeh(x:List Int):∀i k,k<i→((nth x k).natAbs:Int)≤lR x i
 | 0,k,h=>by omega
 | i+1,k,h=>by
  rw [lR]
  by_cases hk:k=i
  ·subst hk;split<;>omega
  ·have:=aeh x i k (by omega)
   split<;>omega
theorem vA{b s n:Nat}{x:List Int}(h:Bd b s n x):∀i,Pm.sz b (lR x i)≤s
 | 0=>by show Pm.sz b 0≤s;rw [kI];omega
 | i+1=>by
  have ih:=vA h i
  have h1:=h.nth i
  have h2:Pm.sz b ((nth x i).natAbs:Int)=Pm.sz b (nth x i):=by unfold Pm.sz;rw [Int.natAbs_natCast]
  rw [lR];split
  ·rw [h2];exact h1
  ·exact ih
def iU(x:List Int):Rat:=dM (((lead x).natAbs:Int)+lR x (x.length-1)) ((lead x).natAbs:Int)
theorem TT{α:Type}{g:α→List PV}{l:List α}{s n:Nat}{x:List Int}(hN:aD env.P 68 [aI g l] (Po x))(cx:Cn x)(hx:x ≠ [])(b:Bd LL s n x)(hs:s<500000000000)(hn:n<500000000000):aD env.P 75 [aI g l] (.eB [RT (iU x), .int .i64 0]):=by
 have oT:0<x.length:=List.length_pos_iff.2 hx
 have hlen:=b.len
 have y7:=cX cx oT
 have L1:=lH (PB.of b (by omega) (by omega)) cx
 have hld:=fX b
 have A1:=aku (x:=lead x) (Nat.lt_of_le_of_lt hld (by omega))
 have TU:sz LL ((lead x).natAbs:Int)≤s:=Nat.le_trans (c7 fV (by simp)) hld
 have hm:=vA b (x.length-1)
 have S1:=VK (x:=((lead x).natAbs:Int)) (y:=lR x (x.length-1)) (Nat.lt_of_le_of_lt TU (by omega)) (Nat.lt_of_le_of_lt hm (by omega))
 have azg:=nE (b:=LL) fV TU hm
 have M1:=aid (n:=((lead x).natAbs:Int)+lR x (x.length-1)) (d:=((lead x).natAbs:Int)) (by omega) (by omega) (by omega)
 replace M1:aD env.P 160 [I (((lead x).natAbs:Int)+lR x (x.length-1)),I ((lead x).natAbs:Int)] (.eB [T2 (iU x).num (iU x).den, .int .i64 0]):=M1
 show aD env.P _ _ (.eB [T2 (iU x).num (iU x).den,_])
 have C1:∀i,i<x.length→aD env.P 158 [I (nth x i)] (I ((nth x i).natAbs:Int))∧aD env.P 159 [I ((nth x i).natAbs:Int),I (lR x i)] (.int .i64 (dF ((nth x i).natAbs:Int) (lR x i))):=fun i hi=>by
  have h1:=b.nth i
  have h2:sz LL ((nth x i).natAbs:Int)≤s:=Nat.le_trans (c7 fV (by simp)) h1
  exact⟨aku (Nat.lt_of_le_of_lt h1 (by omega)),acJ (Nat.lt_of_le_of_lt h2 (by omega)) (Nat.lt_of_le_of_lt (vA b i) (by omega))⟩
 have UQ:∀i,lR x (i+1)=if 0<dF ((nth x i).natAbs:Int) (lR x i)then((nth x i).natAbs:Int)else lR x i:=fun i=>by
  rw [lR]
  by_cases h:lR x i<((nth x i).natAbs:Int)
  ·rw [if_pos h,if_pos (nD.2 h)]
  ·rw [if_neg h,if_neg (fun q=>h (nD.1 q))]
 have h0:lR x 0=0:=rfl
 clear hm azg TU hld
 generalize (iU x).num=rn at *
 generalize ((iU x).den:Int)=rd at *
 generalize ((lead x).natAbs:Int)+lR x (x.length-1)=sm at *
 generalize ((lead x).natAbs:Int)=la at *
 generalize lR x=mf at *
 have e1:((x.length:Int)-1).toNat=x.length-1:=by omega
 have e2:(x.length:Int)-1=((x.length-1:Nat):Int):=by omega
 refine bY [(0,aI g l)] Tryz.func75 ?_
 refine aA [0,2] ?_
 refine aJ [0,2] hN ?_
 refine aL [0,2,13] ?_
 refine bC ?_ ?_<;>intro h
 ·simp at h;exact absurd h hx
 refine W.skip ?_
 refine aA [0,2,4] ?_
 refine W.row (id:=4) (els:=[[.bool false, .nil]]) [[.bool (decide ((0:Int)<0)),us (aN LL (0:Int).natAbs)]] (by simp;first | exact⟨rfl,rfl,rfl⟩ | exact⟨rfl,rfl⟩ | rfl) ⟨⟨.inl rfl, .inr ⟨rfl,rfl⟩,trivial⟩,trivial⟩ ?_
 refine W.seq ?_
 refine W.sr ?_
 simp (disch:=omega) [gw,e1,e2]
 refine bL [0,2,4,19,20,21] ?_
 refine W.block ?_
 refine W.bG (fun k σ=>∃(v2 e2 v4 e4 i:Nat) (rows:Pm.Rows) (clk:Nat),σ=⟨fa [(0,Po x),(2, .ptr 2 v2 0 0),(4, .ptr 4 v4 0 0),(19,aI ie (x.take (x.length-1))),(20, .int .i64 ((x.length-1:Nat):Int)),(21, .int .i64 i)],rows,clk⟩∧i+k=x.length-1 ∧
  rows 2=some ⟨v2,e2,4,[[.bool false, .nil, .bool false, .nil]]⟩∧rows 4=some ⟨v4,e4,2,[[.bool (decide (mf i<0)),us (aN LL (mf i).natAbs)]]⟩) (x.length-1) ?_ ?_
 ·exact⟨_, .refl,_,_,_,_,0,_,_,rfl,by omega,by simp;(first | exact⟨rfl,rfl⟩ | rfl),by rw [h0];simp;(first | exact⟨rfl,rfl⟩ | rfl)⟩
 rintro k _ ⟨v2,e2,v4,e4,i,rows,clk,rfl,AM,bR,dS⟩
 refine b9 [0,2,4,19,20,21,22] ?_
 refine bC ?_ ?_<;>intro h
 ·have hi:i<x.length-1:=by simp at h;omega
  have EH:i<x.length:=by omega
  have xL:nth (x.take (x.length-1)) i=nth x i:=by unfold nth;rw [List.getElem?_take_of_lt hi]
  obtain⟨c1,c2⟩:=C1 i EH
  have hm:=UQ i
  generalize dF ((nth x i).natAbs:Int) (mf i)=cv at *
  generalize ((nth x i).natAbs:Int)=ab at *
  generalize nth x i=xi at *
  refine W.skip ?_
  refine W.dK (fun σ=>∃(v2 e2 v4 e4:Nat) (rows:Pm.Rows) (clk:Nat),σ=⟨fa [(0,Po x),(2, .ptr 2 v2 0 0),(4, .ptr 4 v4 0 0),(19,aI ie (x.take (x.length-1))),(20, .int .i64 ((x.length-1:Nat):Int)),(21, .int .i64 i)],rows,clk⟩ ∧
   rows 2=some ⟨v2,e2,4,[[.bool false, .nil, .bool false, .nil]]⟩∧rows 4=some ⟨v4,e4,2,[[.bool (decide (mf (i+1)<0)),us (aN LL (mf (i+1)).natAbs)]]⟩) ?_ ?_
  ·refine W.sr ?_
   simp (disch:=omega) [gw,hi,xL]
   refine bL [0,2,4,6,19,20,21] ?_
   refine aJ [0,2,4,7,19,20,21] c1 ?_
   refine W.sr ?_
   simp (disch:=omega) [gw,dS]
   refine bS [0,2,4,7,19,20,21,30] c2 ?_
   refine bC ?_ ?_<;>intro h
   ·have h:0<cv:=by simpa using h
    rw [if_pos h]at hm
    refine W.cC (fun K hK=>?_);simp (disch:=omega) [gw,dS]
    exact hK _ ⟨_,aC _ [0,2,4,19,20,21],_,_,_,_,_,_,rfl,by simp [bR];exact rfl,by simp [hm];exact rfl⟩
   ·have h:¬0<cv:=by simpa using h
    rw [if_neg h]at hm
    refine W.skip ?_
    exact⟨_,aC _ [0,2,4,19,20,21],_,_,_,_,_,_,rfl,by simp [bR];exact rfl,by simp [hm,dS];exact rfl⟩
  rintro _ ⟨v2,e2,v4,e4,rows,clk,rfl,bR,dS⟩
  refine W.cC (fun K hK=>?_);simp (disch:=omega) [gw]
  refine hK _ ⟨k-1,_,aC _ [0,2,4,19,20,21],by omega,_,_,_,_,i+1,_,_,rfl,by omega,bR,dS⟩
 ·have hi:i=x.length-1:=by simp at h;omega
  subst hi
  refine eV ?_
  refine iB ?_
  refine cB L1 ?_
  refine bS [2,4,8] A1 ?_
  refine W.sd ?_
  simp (disch:=omega) [gw,dS]
  refine aB S1 ?_
  simp (maxSteps:=4000000) (disch:=omega) [gw]
  refine aB M1 ?_
  simp (disch:=omega) [gw,bR]
  (try (refine a9 (of_decide_eq_true (by kernel_rfl)) ?_));(try simp (maxSteps:=4000000) (disch:=omega) [gw,bR]);(repeat rw [if_pos (by kernel_rfl)]);(try simp (maxSteps:=4000000) (disch:=omega) [gw,bR])
  refine bL [2,3] ?_
  exact bV
theorem yP{x:List Int}(cx:Cn x)(hx:x ≠ []):iU x=1+((lR x (x.length-1):Int):Rat)/(((lead x).natAbs:Int):Rat):=by
 have y7:=cX cx (List.length_pos_iff.2 hx)
 have h1:((lead x).natAbs:Int)≠0:=by omega
 have h2:(((lead x).natAbs:Int):Rat)≠0:=fun h=>h1 (Rat.intCast_eq_zero_iff.1 h)
 refine KM h1 ?_
 rw [Rat.intCast_add]
 have h3:=Rat.div_mul_cancel (a:=((lR x (x.length-1):Int):Rat)) h2
 generalize ((lR x (x.length-1):Int):Rat)/(((lead x).natAbs:Int):Rat)=w at *
 grind
theorem anX{u v:Int}{k:Nat}(hu:sz 2 u≤k)(hv:sz 2 v≤k)(h0:v≠0):ZR k ((u:Rat)/(v:Rat)):=by
 rw [←DX h0]
 have e:∀w:Int,sz 2 (-w)=sz 2 w:=fun w=>by unfold sz;rw [Int.natAbs_neg]
 constructor
 ·rw [p0 u v h0]
  refine Nat.le_trans (c7 (b:=2) (by decide) (Int.natAbs_ediv_le_natAbs _ _)) ?_
  split
  ·rw [e];exact hu
  ·exact hu
 ·rw [p7 u v h0]
  refine Nat.le_trans (c7 (b:=2) (by decide) (Int.natAbs_ediv_le_natAbs _ _)) ?_
  split
  ·rw [e];exact hv
  ·exact hv
theorem TV{s n:Nat}{x:List Int}(cx:Cn x)(hx:x ≠ [])(b:Bd 2 s n x)(pY:1≤s)(hs:s≤1000000000)(hn:n<1099511627776):aD env.P 180 [PI x] (RR (iU x)):=by
 have oT:0<x.length:=List.length_pos_iff.2 hx
 have hlen:=b.len
 have y7:=cX cx oT
 have hY:YY=137438953472:=rfl
 have hO:=p8 1 1 (by decide) (by decide)
 rw [show dM 1 1=1 from by decide]at hO
 have IF:x.length<2→iU x=1:=fun h=>by
  rw [yP cx hx,show x.length-1=0 by omega]
  show 1+((0:Int):Rat)/_=1
  rw [Rat.intCast_zero,Rat.div_def,Rat.zero_mul,Rat.add_zero]
 have hld:=fX b
 have TU:sz 2 ((lead x).natAbs:Int)≤s:=Nat.le_trans (c7 (b:=2) (by decide) (by simp)) hld
 have hm:=vA b (x.length-1)
 have Z1:∀ {v:Int},sz 2 v≤s→ZR YY ((v:Int):Rat):=fun h=>oU (by omega) (by decide)
 have Q1:=DB ((lR x (x.length-1):Int):Rat) (((lead x).natAbs:Int):Rat) (Z1 hm) (Z1 TU) (fun h=>by have:=Rat.intCast_eq_zero_iff.1 h;omega)
 have hz:=anX (k:=YY) (Nat.le_trans hm (by omega)) (Nat.le_trans TU (by omega)) (by omega:((lead x).natAbs:Int)≠0)
 have A1:=wK 1 (((lR x (x.length-1):Int):Rat)/(((lead x).natAbs:Int):Rat)) ⟨by decide,by decide⟩ hz
 rw [←yP cx hx]at A1
 have C1:∀i,i<x.length→aD env.P 15 [R2 ((nth x i).natAbs:Int) 1,R2 (lR x i) 1] (.int .i64 (dF ((nth x i).natAbs:Int) (lR x i))):=fun i hi=>by
  have h1:=b.nth i
  have h2:sz 2 ((nth x i).natAbs:Int)≤s:=Nat.le_trans (c7 (b:=2) (by decide) (by simp)) h1
  have h3:=vA b i
  have:=yI ((nth x i).natAbs:Int) 1 (lR x i) 1 (by omega) (by decide) (by omega) (by decide)
  rwa [Int.mul_one,Int.mul_one]at this
 have UQ:∀i,lR x (i+1)=if 0<dF ((nth x i).natAbs:Int) (lR x i)then((nth x i).natAbs:Int)else lR x i:=fun i=>by
  rw [lR]
  by_cases h:lR x i<((nth x i).natAbs:Int)
  ·rw [if_pos h,if_pos (nD.2 h)]
  ·rw [if_neg h,if_neg (fun q=>h (nD.1 q))]
 have h0:lR x 0=0:=rfl
 have mJ:=pE
 have at7:nth x (x.length-1)=lead x:=rfl
 have hd:∀v:Int,decide (((v.natAbs:Int))<0)=false:=fun v=>decide_eq_false (by omega)
 have hna:∀v:Int,((v.natAbs:Int)).natAbs=v.natAbs:=fun v=>Int.natAbs_natCast _
 clear hm hld TU hz Z1
 rw [show RR ((lR x (x.length-1):Int):Rat) = .ag (ri (lR x (x.length-1)))from congrArg PV.ag (fT _),show RR (((lead x).natAbs:Int):Rat) = .ag (ri ((lead x).natAbs:Int))from congrArg PV.ag (fT _)]at Q1
 rw [show RR (1:Rat) = .ag (ri 1)from congrArg PV.ag (fT 1)]at A1 hO
 generalize ((lR x (x.length-1):Int):Rat)/(((lead x).natAbs:Int):Rat)=qq at *
 generalize hbd:iU x=B at *
 simp only [cW]at Q1 A1 ⊢
 have xV:x.length<2→R2 B.num (B.den:Int) = .ag (ri 1):=fun h=>by rw [IF h];rfl
 generalize B.num=bn at *
 generalize (B.den:Int)=bd at *
 generalize qq.num=qn at *
 generalize (qq.den:Int)=qd at *
 generalize hmf:lR x=mf at *
 have e1:((x.length:Int)-1).toNat=x.length-1:=by omega
 refine bY [(0,PI x)] Tryz.func180 ?_
 refine aA [0,2] ?_
 refine aJ [0,2,3] mJ ?_
 refine aL [0,2,3,4] ?_
 refine W.block ?_
 refine W.bG (fun k σ=>∃(v2 e2 v3 e3 i:Nat) (rows:Pm.Rows) (clk:Nat),σ=⟨fa [(0,PI x),(2, .ptr 2 v2 0 0),(3, .ptr 3 v3 0 0),(4, .int .i64 i)],rows,clk⟩∧i+k=x.length-1 ∧
  rows 2=some ⟨v2,e2,4,[[.nil, .bool false, .nil, .bool false]]⟩∧rows 3=some ⟨v3,e3,4,[[aI aG (aN DD (mf i).natAbs), .bool (decide (mf i<0)),aI aG (aN DD 1), .bool false]]⟩) (x.length-1) ?_ ?_
 ·exact⟨_, .refl,_,_,_,_,0,_,_,rfl,by omega,by simp;(first | exact⟨rfl,rfl⟩ | rfl),by rw [h0];simp;(first | exact⟨rfl,rfl⟩ | rfl)⟩
 rintro k _ ⟨v2,e2,v3,e3,i,rows,clk,rfl,AM,bR,cO⟩
 refine aL [0,2,3,4,12] ?_
 refine bC ?_ ?_<;>intro h
 ·have hi:i<x.length-1:=by simp at h;omega
  have EH:i<x.length:=by omega
  have c1:=C1 i EH
  have hm:=UQ i
  have JK:=hd (nth x i)
  have qF:=hna (nth x i)
  simp only [JK,qF,J9,R2]at c1
  generalize dF ((nth x i).natAbs:Int) (mf i)=cv at *
  refine W.skip ?_
  refine W.dK (fun σ=>∃(v2 e2 v3 e3:Nat) (rows:Pm.Rows) (clk:Nat),σ=⟨fa [(0,PI x),(2, .ptr 2 v2 0 0),(3, .ptr 3 v3 0 0),(4, .int .i64 i)],rows,clk⟩ ∧
   rows 2=some ⟨v2,e2,4,[[.nil, .bool false, .nil, .bool false]]⟩∧rows 3=some ⟨v3,e3,4,[[aI aG (aN DD (mf (i+1)).natAbs), .bool (decide (mf (i+1)<0)),aI aG (aN DD 1), .bool false]]⟩) ?_ ?_
  ·refine W.sr ?_
   simp (disch:=omega) [gw,EH]
   refine bL [0,2,3,4,5] ?_
   refine aA [0,2,3,4,5] ?_
   refine W.sr ?_
   simp (disch:=omega) [gw,cO]
   refine bS [0,2,3,4,5,24] c1 ?_
   refine bC ?_ ?_<;>intro h
   ·have h:0<cv:=by simpa using h
    rw [if_pos h]at hm
    refine W.cC (fun K hK=>?_);simp (disch:=omega) [gw,cO]
    exact hK _ ⟨_,aC _ [0,2,3,4],_,_,_,_,_,_,rfl,by simp [bR];exact rfl,by simp [hm,JK,qF];exact rfl⟩
   ·have h:¬0<cv:=by simpa using h
    rw [if_neg h]at hm
    refine W.skip ?_
    exact⟨_,aC _ [0,2,3,4],_,_,_,_,_,_,rfl,by simp [bR];exact rfl,by simp [hm,cO];exact rfl⟩
  rintro _ ⟨v2,e2,v3,e3,rows,clk,rfl,bR,cO⟩
  refine W.cC (fun K hK=>?_);simp (disch:=omega) [gw]
  refine hK _ ⟨k-1,_,aC _ [0,2,3,4],by omega,_,_,_,_,i+1,_,_,rfl,by omega,bR,cO⟩
 ·have hi:i=x.length-1:=by simp at h;omega
  subst hi
  refine eV ?_
  refine aL [0,2,3,28] ?_
  refine bC ?_ ?_<;>intro h
  ·have h:x.length<2:=by simp at h;omega
   rw [xV h]
   refine iB ?_
   refine aB hO ?_
   simp (disch:=omega) [gw,bR]
   refine bL [2] ?_
   exact bV
  ·have h:¬x.length<2:=by simp at h;omega
   have EH:x.length-1<x.length:=by omega
   have JK:=hd (lead x)
   have qF:=hna (lead x)
   simp only [R2,ac4,J9,JK,qF]at Q1 A1
   refine W.skip ?_
   refine W.sr ?_
   simp (disch:=omega) [gw,EH,e1,at7]
   refine bL [2,3,6] ?_
   refine aA [2,3,6] ?_
   refine mP ?_
   refine aB hO ?_
   simp (disch:=omega) [gw,cO]
   refine cB Q1 ?_
   refine aB A1 ?_
   simp (disch:=omega) [gw,bR]
   (try (refine a9 (of_decide_eq_true (by kernel_rfl)) ?_));(try simp (maxSteps:=4000000) (disch:=omega) [gw,bR]);(repeat rw [if_pos (by kernel_rfl)]);(try simp (maxSteps:=4000000) (disch:=omega) [gw,bR])
   refine bL [2] ?_
   exact bV
end Go.Proofs.YtelhfbikiccfkaaGreat
