import Derived.Test.YtelhfbikiccfkaaGreatDal
import Derived.Test.YtelhfbikiccfkaaGreatDao
import Derived.Test.YtelhfbikiccfkaaGreatDap
set_option linter.unusedSimpArgs false
set_option linter.unusedVariables false
namespace Pm
open Go Go.RowKit
def abx(E:Env)(o:Oper)(K:PS→Prop)(σ:PS):Prop:=
 match o.op with
 | .build t ⟨[(0,x)]⟩=>E.ty t = .struct [(0,1,false)] (E.ty t).zero∧(E.ty t).zero.length=1∧cU (aX σ.f x)=some [aX σ.f x]∧jF σ.rows (aX σ.f x)∧K (σ.put o.dst (.ag [aX σ.f x]))
 | _=>False
section
variable {E:Env} {w0:World} {S0:eG} {m:Nat} {G:Gs}
theorem VI{o:Oper}{a:Act}{w:World}{σ:PS}{K:PS→Prop}(h:abx E o K σ)(hR:Rel w0 S0 m G σ a w)(hd:∀t,o.dst=some t→t<m)
  {K':Act→World→Prop} {Q:Exit→Act→World→Prop} (hK:∀σ' a' w',K σ'→Rel w0 S0 m G σ' a' w'→K' a' w'):o.wp E.P a w K' Q:=by
 obtain⟨⟨c,rfl,hr,gH,hI,hf,hG⟩,hn,gG⟩:=hR
 have hρ:=nI hf
 obtain⟨dst,op,type,pos,after,guard⟩:=o
 simp only at hd
 unfold abx at h
 simp only at h
 split at h
 ·rename_i t x
  obtain⟨hE,JZ,hc,ho,hk⟩:=h
  rw [←hr]at ho
  obtain⟨g1,g2⟩:=n3 (hρ x) hc (fun q hq=>by simp at hq;subst hq;exact ho)
  have ht:=E.ok t
  rw [hE]at ht
  obtain⟨⟨fields,hu,ha⟩,hz⟩:=ht
  obtain⟨i,zv,hi,hzv,_,SX,_⟩:=hz.ok
  have GI:zv.cells.size=1:=by
   have:(zv.cells.toList.map jS).length=1:=by rw [SX];exact JZ
   simpa using this
  have M8:(a.eval x).cells.size=1:=by have:=g1.length;simpa using this.symm
  have HM:=qJ 0 (a.eval x).cells.toList 0 zv.cells (by simp;omega)
  have hl:((a.eval x).cells.toList.zipIdx 0).foldl (fun cs (x:Value × Nat)=>cs.setIfInBounds (0+x.2) x.1) zv.cells=(a.eval x).cells:=by
   apply Array.toList_inj.1
   rw [HM]
   have h1:(a.eval x).cells.toList.length=1:=by simpa using M8
   have h2:zv.cells.toList.length=1:=by simpa using GI
   rw [h1]
   simp [List.drop_of_length_le,h2]
  have kS:(execOp a.eval { dst:=dst,op:=.build t ⟨[(0,x)]⟩,type:=type,pos:=pos,after:=after,guard:=guard }).run E.P c.w = .ok (.value (.agg (a.eval x).cells)) c.w:=by
   have alP:Instr.fill (fun x=>(([(0,1,false)]:List (Nat × Nat × Bool)).toArray.map fun x=>(x.1,x.2.1))[x]?) zv.cells [(0,a.eval x)]=some (a.eval x).cells:=by
    have RZ:(([(0,1,false)]:List (Nat × Nat × Bool)).toArray.map fun x=>(x.1,x.2.1))[0]? = some (0,1):=by simp
    simp only [Instr.fill,RZ]
    rw [if_neg (by simp [M8,GI])]
    have hz3:(a.eval x).cells.toList.zipIdx=(a.eval x).cells.zipIdx.toList:=by simp
    have h5:(a.eval x).cells.zipIdx.foldl (fun cs (x:Value × Nat)=>cs.setIfInBounds (0+x.2) x.1) zv.cells=(a.eval x).cells:=by
     rw [←Array.foldl_toList,←hz3];exact hl
    simp only [h5]
   simp only [execOp,Instr.build,zeroValue,typeInfo,program,Sem.run_bind,Sem.run,hi,hzv,Sem.run_pure,Result.andThen_ok,run_underlying hu,run_places ha]
   simp at alP
   simp [alP]
  unfold Oper.wp
  rw [kS]
  refine hK _ _ _ hk ?_
  exact oU hf hG hn gG (vT.refl c) hI (show aO c (.ag [aX σ.f x]) (.agg (a.eval x).cells)from⟨(a.eval x).cells.toList,by simp,g1⟩) hd rfl (by simp [PS.put,hr]) gH
 ·exact h.elim
end
theorem W.apw{E:Env}{n:Nat}{tl:Nat→Nat}{Q:PX→PS→Prop}{σ:PS}{id:Nat}{ops:List Oper}{y:Code}(i:Nat){o o2:Oper}(ho:ops=ops.take i++o::o2::ops.drop (i+2))(hg:o.guard=none)(pV:o2.guard=none)
  (h:∀K:PS→Prop,(∀σ,W E n tl y Q σ→K σ)→go (aQ E ops (ops.take i) (fun σ=>G8 E o (fun σ=>abx E o2 (aQ E ops (ops.drop (i+2)) K) σ) σ) σ)):W E n tl (.seq (.region id ops.toArray false) y) Q σ:=by
 refine W.seq ?_
 intro iI w0 S0 G a w Q' hR hQ
 simp only [fO,s6,Bool.and_eq_true]at iI
 have hd:∀o∈ops,∀t,o.dst=some t→t<n:=fun o ho t ht=>by
  have:=Array.all_eq_true_iff_forall_mem.1 iI.1 o (by simpa using ho)
  simpa [ht]using this
 refine wp_region_list ?_
 show wpList E.P ops.toArray Q' ops a w
 have h1:=h (fun σ=>W E n tl y Q σ) fun _ h=>h
 have vZ:o∈ops:=by rw [ho];simp
 have avA:o2∈ops:=by rw [ho];simp
 have:=o6 (E:=E) (w0:=w0) (S0:=S0) (m:=n) (G:=G) (ops:=ops.toArray) (Q:=Q') (l2:=o::o2::ops.drop (i+2)) (K:=fun σ=>G8 E o (fun σ=>abx E o2 (aQ E ops (ops.drop (i+2)) (fun σ=>W E n tl y Q σ)) σ) σ) (fun σ' a' w' hl mM=>by
  unfold wpList
  rw [if_pos (by simp [Region.wanted,hg])]
  refine .inl (wP hl mM (hd o vZ) fun σ2 a2 w2 hk hR2=>?_)
  unfold wpList
  rw [if_pos (by simp [Region.wanted,pV])]
  refine .inl (VI hk hR2 (hd o2 avA) fun σ3 a3 w3 hk3 hR3=>?_)
  exact iT (E:=E) (ops:=ops.toArray) (fun σ4 a4 w4 hk4 hR4=>hQ .normal σ4 a4 w4 hk4 hR4) _ σ3 a3 w3 (fun o ho=>hd o (List.mem_of_mem_drop ho)) hk3 hR3) (ops.take i) σ a w (fun o ho=>hd o (List.mem_of_mem_take ho)) h1 hR
 rwa [←ho]at this
@[simp] theorem axG{E:Env}{K:PS→Prop}{f:Nat→PV}{rows:Rows}{clk:Nat}{d:Option Tmp}{ty:TypeId}{pos:String}{af:Array Edge}{t:TypeId}{x:Operand} :
  abx E ⟨d, .build t ⟨[(0,x)]⟩,ty,pos,af,none⟩ K ⟨f,rows,clk⟩=aK (E.ty t = .struct [(0,1,false)] (E.ty t).zero∧(E.ty t).zero.length=1) (gI (cU (aX f x)) fun l=>aK (l = [aX f x]∧iU rows [aX f x]) (K ⟨put f d (.ag [aX f x]),rows,clk⟩)):=by
 simp only [abx,aK,gI,iU,PS.put]
 apply propext
 constructor
 ·rintro⟨h1,h2,h3,h4,h5⟩;exact⟨⟨h1,h2⟩,_,h3,⟨rfl,by simpa using h4⟩,h5⟩
 ·rintro⟨⟨h1,h2⟩,l,h3,⟨rfl,h4⟩,h5⟩;exact⟨h1,h2,h3,by simpa using h4,h5⟩
end Pm
namespace Go.Proofs.YtelhfbikiccfkaaGreat
open Go Pm
theorem BZ.z{h n:Nat}{a:ZX}(b:BZ h n a)(hh:h<1099511627776):∀c∈a.l,Z c:=fun c hc=>Nat.lt_of_le_of_lt (b.sz c hc) hh
theorem Y6{h n:Nat}{a:ZX}(b:BZ h n a)(hh:h<1099511627776)(hn:n<1099511627776):aD env.P 33 [PI a.l] (Po a.l):=LF a.l (b.z hh) (Nat.lt_of_le_of_lt b.len hn)
theorem avB{a b:ZX}(ha:a≠0)(hb:Nf b)(h:∀p,ZX.rG p→ZX.mu p b=min (ZX.mu p a) 1):sq a=b:=by
 have nA:=jK ha
 have e:sq a=sz' (nf a):=by
  unfold sq
  split
  ·rename_i h2
   have h3:nf a=1:=nA.N1 (by rw [yM];exact h2)
   rw [h3]
   show 1=wz 1 0
   rw [wz]
   show 1=qz 1 (gd 1)
   rw [ae5,Nf.one.self]
  ·rfl
 rw [e]
 exact Nf.tW (ae6 nA) hb fun p hp=>by rw [ae7 nA hp,ae3 hp ha,h p hp]
theorem afq{a:ZX}{n:Nat}(hn:a.l.length≤n)(hc:∀c∈a.l,c.natAbs<8):BZ 3 n a:=⟨hn,fun c h=>cQ (by decide) (by have:=hc c h;show _<8;exact this)⟩
theorem aby{a:ZX}(b:BZ 3 5 a):sM 3 5 a:=⟨b,by decide,by decide,by decide⟩
end Go.Proofs.YtelhfbikiccfkaaGreat
namespace Go.Proofs.YtelhfbikiccfkaaGreat
open Go Pm
open ZX hiding N W
theorem Y7{a:ZX}(h:2≤ZX.N a):nth (b9 a).l (ZX.N a-2)=lead a.l*((ZX.N a-1:Nat):Int):=by
 have h1:a.l.length=ZX.N a:=rfl
 have h2:nth (b9 a).l (ZX.N a-2)=nth a.l (ZX.N a-1)*((ZX.N a-1:Nat):Int):=by
  show nth (aL (AD a.l)) _=_
  rw [jI,AD,dE (by simp;omega)]
  simp only [List.getElem_map,List.getElem_range]
  rw [show ZX.N a-2+1=ZX.N a-1 by omega]
 rw [h2,lead,h1]
theorem afr{a:ZX}(h:2≤ZX.N a):ZX.N (b9 a)=ZX.N a-1:=by
 have h1:=nG a
 have h2:=Y7 h
 have hl:=dK a.c (show 0<a.l.length from by have:a.l.length=ZX.N a:=rfl;omega)
 have h3:nth (b9 a).l (ZX.N a-2)≠0:=by rw [h2];exact Int.mul_ne_zero hl (by omega)
 rcases Nat.lt_or_ge (ZX.N a-2) (b9 a).l.length with h4 | h4
 ·have:ZX.N (b9 a)=(b9 a).l.length:=rfl
  omega
 ·exact absurd (iF h4) h3
theorem afs{a:ZX}(h:2≤ZX.N a):lead (b9 a).l=lead a.l*((ZX.N a-1:Nat):Int):=by
 rw [←Y7 h,lead,show(b9 a).l.length=ZX.N (b9 a)from rfl,afr h,show ZX.N a-1-1=ZX.N a-2 by omega]
theorem abz{a:ZX}(h:ZX.N a≤1):b9 a=0:=by
 refine Classical.byContradiction fun h0=>?_
 have h1:=ZX.aI.1 h0
 have:=nG a
 omega
theorem ajo{f:ZX}(hf:Nf f):tO (b9 f).l=(sB (b9 f)).l:=by
 have h:¬lead (b9 f).l<0:=by
  rcases Nat.lt_or_ge (ZX.N f) 2 with h2 | h2
  ·rw [abz (by omega)];decide
  ·rw [afs h2]
   have:=Int.mul_nonneg (Int.le_of_lt hf.l) (show (0:Int)≤((ZX.N f-1:Nat):Int)by omega)
   omega
 show _=kK (b9 f).l
 rw [PY,if_neg h]
theorem L7{α:Type}{g:α→List PV}{l:List α}{s n:Nat}{f:ZX}(hS:aD env.P 74 [aG g l] (Po f.l))(h:Ch s n f)(hf:Nf f):aD env.P 73 [aG g l] (.fE [CH (aR f), .int .i64 0]):=by
 have hn:=h.hn
 have hp:=h.pot
 have hs:=hp.le
 have bd:BZ (s+5) n (b9 f):=h.bz.b9 (by omega)
 have d1:=rJ h.bz (by omega) (by omega)
 have d2:=vQ ((b9 f).l.map jD) (bd.tL (by omega) (by omega)) (s:=s+5) (n:=n) (by rw [bP];exact QQ bd) (by omega) (by omega)
 rw [BW,←fI,ajo hf]at d2
 have b2:BZ (s+5) n (sB (b9 f)):=jL bd
 have b1:BZ (s+5) n f:=h.bz.mono (by omega) (Nat.le_refl _)
 have GM:ZX.N (sB (b9 f))≤ZX.N f:=Nat.le_trans (mQ _) (Nat.le_trans (nG f) (by omega))
 have hc:aR f=f::wV (ZX.N f) f (sB (b9 f)):=rfl
 rw [FO GM (Nat.le_refl _)]at hc
 have hf0:f.l.length≠0:=by have:=ZX.aI.1 hf.ne;exact Nat.pos_iff_ne_zero.1 this
 have hf1:¬f.l = []:=fun h0=>hf0 (by rw [h0];rfl)
 generalize hC:aR f=C at *
 generalize sB (b9 f)=g0 at *
 generalize mC (b9 f).l=pc at *
 generalize (b9 f).l=dl at *
 refine b6 [(0,aG g l)] Tryz.func73 ?_
 refine aA [0] ?_
 refine aJ [4] hS ?_
 refine aM [4,14] ?_
 refine bF ?_ ?_<;>intro h
 ·simp at h;exact absurd h hf1
 refine W.skip ?_
 refine W.apw 1 rfl rfl rfl (fun K hK=>?_)
 simp (disch:=omega) [gw]
 refine W.lw [4,5] hK ?_;clear hK K;simp
 refine iM ?_
 refine bW d1 ?_
 refine bU [4,5,7] d2 ?_
 refine W.seq ?_
 refine W.block ?_
 refine W.bE (fun k σ=>∃(L:List ZX) (x y:ZX) (i ver v18 e18 s:Nat) (rows:Pm.Rows) (clk:Nat),σ=⟨fa [(4,Po x.l),(5, .ptr 18 v18 0 0),(7,Po y.l)],rows,clk⟩∧rows 16=some ⟨ver,24,1,emap zp L⟩∧rows 18=some ⟨v18,e18,1,[[.own 16 ver 0 (i+1)]]⟩∧L.length=i+1 ∧
  L++wV k x y=C∧k=ZX.N y∧BZ s n x∧BZ s n y∧BX 4500000000 n s x y∧i+ZX.N y≤20) (ZX.N g0) ?_ ?_
 ·exact⟨_, .refl,[f],f,g0,0,_,_,_,s+5,_,_,rfl,by simp [emap];(first | exact rfl | exact⟨rfl,rfl⟩),by simp;(first | exact rfl | exact⟨rfl,rfl⟩ | exact⟨rfl,rfl,rfl⟩),rfl,hc.symm,rfl,b1,b2,hp,by have:=b2.N;omega⟩
 rintro k _ ⟨L,x,y,i,ver,v18,e18,s,rows,clk,rfl,aft,apx,hL,hcc,rfl,bx,pP,hp,hiN⟩
 have hs:=hp.le
 have hlx:=bx.len
 have hly:=pP.len
 have hLl:(emap zp L).length=i+1:=by simp [emap,hL]
 refine aM [4,5,7,27] ?_
 refine bF ?_ ?_<;>intro h
 ·have hy:y≠0:=ZX.aI.2 (by show 0<y.l.length;simp at h;omega)
  have hR:=PO (x.l.map jD) (y.l.map jD) (bx.tL (by omega) (by omega)) (pP.tL (by omega) (by omega)) (s:=s) (s':=s) (N:=n) (by rw [bP];exact QQ bx) (by rw [bP];exact QQ pP) (by
   have:n*(s+n+1)≤20*4500000000:=Nat.mul_le_mul hn hs
   omega)
  rw [BW,BW,if_neg (vB hy),←fI,←fI]at hR
  have br:=YZ bx pP hy
  have alM:(ZX.N x+1-ZX.N y)*(s+n+1)≤22*4500000000:=Nat.mul_le_mul (by have:ZX.N x=x.l.length:=rfl;omega) (by omega)
  have hrz:PM x.l y.l=(sB (rz x y)).l:=by
   obtain⟨R8,hN,_⟩:=u0 (a:=x) hy
   obtain⟨m,q,hm,e⟩:=afh y.c (ZX.aI.1 hy) (x.l.length+1) x.l x.c (by omega)
   rw [←R8]at e
   exact afi x.c y.c (ZX.aI.1 hy) (rz x y).c hN hm e
  rw [hrz]at hR
  have hNg:=IP (x:=(sB (rz x y)).l) (PB.of (QQ (jL br)) (by omega) (by omega))
  have e3:fU (sB (rz x y)).l=(nx x y).l:=rfl
  rw [e3]at hNg
  have GM:=abn (a:=x) hy
  have UI:=hp.step GM
  have bn:=Y1 bx pP hy
  have hch:L ++ [y]++wV (ZX.N (nx x y)) y (nx x y)=C:=by
   rw [←hcc]
   obtain⟨j,hj⟩:∃j,ZX.N y=j+1:=⟨ZX.N y-1,by have:=ZX.aI.1 hy;have:ZX.N y=y.l.length:=rfl;omega⟩
   rw [hj,wV,if_neg (by omega),FO (k:=j) (j:=ZX.N (nx x y)) (by omega) (Nat.le_refl _)]
   simp
  generalize (sB (rz x y)).l=pl at *
  generalize hnx:nx x y=nn at *
  refine W.skip ?_
  refine W.block ?_
  refine W.sr ?_
  simp (disch:=omega) [gw,aft,apx,hLl]
  refine bN [4,5,7] ?_
  refine aJ [5,7,8] hR ?_
  refine W.cE (fun K hK=>?_)
  simp (disch:=omega) [gw]
  refine bW hNg ?_
  refine hK _ ⟨ZX.N nn,_,aC _ [4,5,7],GM,L ++ [y],y,nn,i+1,_,v18,e18,_,_,_,rfl,by simp;first | exact rfl | skip,by simp;first | exact rfl | skip,by simp [hL],hch,rfl,pP.mono (by omega) (Nat.le_refl _),bn,UI,by omega⟩
 ·have hy:y=0:=by
   refine Classical.byContradiction fun h0=>?_
   have h1:=ZX.aI.1 h0
   have h2:ZX.N y=y.l.length:=rfl
   simp at h;rw [h2,h]at h1;simp at h1
  subst hy
  rw [lG,List.append_nil]at hcc
  subst hcc
  have zF:List.take (i+1) L=L:=List.take_of_length_le (by omega)
  refine eV ?_
  refine W.KT 16 (by rw [aft];simp) (fun K hK=>?_)
  simp [aft]
  refine hK _ ?_
  have avD:G7 rows 16 18=some ⟨v18,e18,1,[[aG zp L]]⟩:=by
   simp [apx,aft,hLl,zF]
  clear aft apx
  generalize G7 rows 16=x6 at *
  refine aA [2,3] ?_
  refine W.ret ?_
  simp [go,avD]
theorem afu{n:Nat}(hn:n≤20):∀(j s:Nat) (x g:ZX),BZ s n x→BZ s n g→BX 4500000000 n s x g → ∀p∈wV j x g,BZ 4500000000 n p
 | 0,_,_,_,_,_,_,p,hp=>by cases hp
 | j+1,s,x,g,bx,bg,hP,p,hp=>by
  have hs:=hP.le
  rw [wV]at hp
  split at hp
  ·cases hp
  ·rename_i h0
   have h0':g≠0:=ZX.aI.2 (Nat.pos_of_ne_zero h0)
   rcases List.mem_cons.1 hp with rfl | hp
   ·exact bg.mono (by omega) (Nat.le_refl _)
   ·exact afu hn j _ g (nx x g) (bg.mono (by omega) (Nat.le_refl _)) (Y1 bx bg h0') (hP.step (abn h0')) p hp
theorem Y8:∀(j:Nat) (x g:ZX),(wV j x g).length≤j
 | 0,_,_=>Nat.le_refl _
 | j+1,x,g=>by
  rw [wV]
  split
  ·simp
  ·simp only [List.length_cons];have:=Y8 j g (nx x g);omega
theorem Ch.all{s n:Nat}{f:ZX}(h:Ch s n f):(∀p∈aR f,BZ 4500000000 n p)∧(aR f).length≤21:=by
 have hp:=h.pot
 have hs:=hp.le
 have hn:=h.hn
 refine⟨fun p hq=>?_,?_⟩
 ·rcases List.mem_cons.1 hq with rfl | hq
  ·exact h.bz.mono (by omega) (Nat.le_refl _)
  ·exact afu hn _ _ _ _ (h.bz.mono (by omega) (Nat.le_refl _)) (jL (h.bz.b9 (by omega))) hp p hq
 ·have:=Y8 (ZX.N f) f (sB (b9 f))
  have h2:=h.bz.N
  show(f::wV (ZX.N f) f (sB (b9 f))).length≤21
  simp only [List.length_cons];omega
theorem ajp{a u v:ZX}{c:Int}(na:Nf a)(hc:c≠0)(h:u*a+v*b9 a=K c):sq a=a:=avB na.ne na fun p hp=>by
 have hm:mu p a≤1:=by
  rcases Nat.lt_or_ge (mu p a) 2 with h1 | h1
  ·omega
  ·exfalso
   obtain⟨m,hmm⟩:∃m,mu p a=m+1:=⟨mu p a-1,by omega⟩
   obtain⟨_,h2⟩:=AE hp na.ne hmm
   have d1:dv p a:=by have:=(nE hp na.ne).1 (show 1≤mu p a by omega);rwa [show p^1=p by rw [pow_succ',fV];grind]at this
   have hd:b9 a≠0:=fun h0=>by rw [h0]at h2;have:mu p (0:ZX)=m:=h2;have h9:=(AE hp na.ne hmm).1;exact h9 h0
   have d2:dv p (b9 a):=by have:=(nE hp hd).1 (show 1≤mu p (b9 a)by omega);rwa [show p^1=p by rw [pow_succ',fV];grind]at this
   have d3:dv p (K c):=by rw [←h];exact(d1.mul_left u).add (d2.mul_left v)
   have h3:=d3.mD (sJ hc)
   have h4:=hp.deg
   rw [N_K hc]at h3
   omega
 omega
theorem bB(q:Rat):dR q.num q.den=q:=by
 rw [dR,if_neg (by have:=q.den_nz;omega)]
 exact Rat.num_divInt_den q
theorem VJ(n d:Int):(sml n d).num.natAbs≤30∧((sml n d).den:Int).natAbs≤6:=by
 have h1:=Int.emod_nonneg n (show (61:Int)≠0 by decide)
 have h2:=Int.emod_lt_of_pos n (show (0:Int)<61 by decide)
 have h3:=Int.emod_nonneg d (show (6:Int)≠0 by decide)
 have h4:=Int.emod_lt_of_pos d (show (0:Int)<6 by decide)
 unfold sml
 rw [rB _ _ (by omega),rC _ _ (by omega)]
 rw [if_neg (by omega),if_neg (by omega)]
 refine⟨Nat.le_trans (Int.natAbs_ediv_le_natAbs _ _) (by omega),Nat.le_trans (Int.natAbs_ediv_le_natAbs _ _) (by omega)⟩
structure SQ(u:Nat)(q:Rat):Prop where
 n2:sz 2 q.num≤u
 d2:sz 2 (q.den:Int)≤u
 hu:1≤u
theorem SQ.nL{u:Nat}{q:Rat}(h:SQ u q):sz LL q.num≤u:=Nat.le_trans (FK _) h.n2
theorem SQ.dL{u:Nat}{q:Rat}(h:SQ u q):sz LL (q.den:Int)≤u:=Nat.le_trans (FK _) h.d2
theorem afv(n d:Int):SQ 5 (sml n d):=by
 obtain⟨h1,h2⟩:=VJ n d
 exact⟨oL (by omega),oL (by omega),by decide⟩
section
variable {c:List ZX} {n u:Nat} {q:Rat} (hb:∀p∈c,BZ 4500000000 n p) (hn:n≤20) (hl:c.length≤21) (hq:SQ u q) (hu:u≤1000000000)
include hb hn hl hq hu
theorem afw:aD env.P 164 [aG zq c,R2 q.num q.den] (.int .i64 (vr (pA c q.num q.den))):=QX (by omega) fun p hp=>by
 have hmul:n*(u+1)≤20*(u+1):=Nat.mul_le_mul_right _ hn
 exact u3 (hb p hp) hq.n2 hq.d2 hq.hu (by omega) (by show _<137438953472;omega)
theorem afx:aD env.P 178 [CH c,T2 q.num q.den] (.int .i64 (vr (pA c q.num q.den))):=VG (by omega) fun p hp=>by
 have hmul:n*(u+1)≤20*(u+1):=Nat.mul_le_mul_right _ hn
 exact JA (QQ (hb p hp)) p.c hq.nL hq.dL hq.hu (by omega) (by omega) (by omega) (bB q) ⟨hq.nL,hq.dL⟩
end
theorem pbs{c:List ZX}{n:Nat}(hb:∀p∈c,BZ 4500000000 n p)(hn:n≤20):∀p∈c,PB p.l:=fun p hp=>(hb p hp).pb (by decide) (by omega)
structure MK(a:ZX)(c:List ZX):Prop where
 to:aD env.P 33 [PI a.l] (Po a.l)
 new:aD env.P 73 [Po a.l] (.fE [CH c, .int .i64 0])
 chain:aD env.P 85 [PI a.l] (aG zq c)
 bd:∀p∈c,BZ 4500000000 20 p
 len:c.length≤21
theorem MK.of{s n:Nat}{a:ZX}(h:sM s n a)(h0:a≠0)(lT:1≤n)(h1:1≤s):MK a (aR (sq a)):=by
 have hC:=h.ch h0 lT
 obtain⟨hb,hl⟩:=hC.all
 have hqb:=h.sA
 have hs:s<1099511627776:=by unfold qb at hqb;omega
 have hn:=h.hn
 exact⟨Y6 h.bz hs (by omega),L7 (wT h) hC (B6 h0).1,rO h h0 lT h1,fun p hp=>(hb p hp).mono (Nat.le_refl _) hn,hl⟩
theorem pB(a b:Nat):(2:Rat)^(a+b)=2^a*2^b:=by
 induction b with
 | zero=>simp
 | succ b ih=>rw [←Nat.add_assoc,Rat.pow_succ,Rat.pow_succ,ih];grind
theorem two_pow_pos(a:Nat):(0:Rat)<2^a:=Rat.pow_pos (by decide)
theorem pC:∀a:Nat,(1:Rat)≤2^a
 | 0=>by simp
 | a+1=>by
  have:=pC a
  rw [Rat.pow_succ];grind
theorem mF{a b:Nat}(h:a≤b):(2:Rat)^a≤2^b:=by
 obtain⟨c,rfl⟩:=Nat.exists_eq_add_of_le h
 rw [pB]
 have h1:=pC c
 have h2:=Rat.mul_le_mul_of_nonneg_left h1 (Rat.le_of_lt (two_pow_pos a))
 grind
theorem Q0{c:Int}{s:Nat}(h:c.natAbs<2^s):Ab (c:Rat) (2^s):=by
 have h1:((2^s:Int):Rat)=2^s:=by rw [Rat.intCast_pow];rfl
 have h2:(2^s:Int)=((2^s:Nat):Int):=by rw [Int.natCast_pow];rfl
 constructor
 ·rw [←h1,←Rat.intCast_neg]
  exact Rat.intCast_le_intCast.2 (by omega)
 ·rw [←h1]
  exact Rat.intCast_le_intCast.2 (by omega)
theorem alQ{c:Int}{s:Nat}(h:sz 2 c≤s):Ab (c:Rat) (2^s):=
 Q0 (Nat.lt_of_lt_of_le (iK (b:=2) (by decide) c) (Nat.pow_le_pow_right (by decide) h))
theorem BZ.ab{s n:Nat}{a:ZX}(h:BZ s n a):∀c∈a.l,Ab (c:Rat) (2^s):=fun c hc=>alQ (h.sz c hc)
theorem L8(s β:Nat):∀k,zK (2^s) (2^β) k=2^(s+k*(β+2))
 | 0=>by simp [zK]
 | k+1=>by
  rw [zK,L8 s β k,show s+(k+1)*(β+2)=s+k*(β+2)+β+1+1 by rw [Nat.add_mul];omega,Rat.pow_succ,Rat.pow_succ,pB _ β]
  grind
theorem BZ.aAS{s n β:Nat}{a:ZX}(h:BZ s n a){t:Rat}(ht:Ab t (2^β)):Ab (e t a) (2^(s+n*(β+2))):=by
 have h1:=Y3 (S:=2^s) (B:=2^β) (Rat.le_of_lt (two_pow_pos s)) (pC β) ht a.l h.ab
 rw [L8]at h1
 exact h1.mono (mF (by have:=Nat.mul_le_mul_right (β+2) h.len;omega))
theorem Y9{s' N:Nat}{y:List Int}(pP:Bd 2 s' N y)(cy:Cn y)(hy:0<y.length):∀(n j s:Nat) (x:List Int),Cn x→x.length<n→Bd 2 s N x→x.length+1≤y.length+j →
  ∃(m:Int) (q:List Int),0<m∧sz 2 m≤j*s'+1∧Bd 2 (s+j*(2*s'+N+2)) N q ∧ ∀t,m*V t x=V t q*V t y+V t (rq y n x)
 | 0,j,s,x,_,h,_,_=>by omega
 | n+1,j,s,x,cx,h,bx,hj=>by
  rw [rq]
  split
  ·exact⟨1,[],by decide,Nat.le_trans (cQ (k:=1) (by decide) (by decide)) (by omega),⟨by simp,fun c hc=>by cases hc⟩,fun t=>by simp [V]⟩
  ·rename_i h1
   obtain⟨j,rfl⟩:∃i,j=i+1:=⟨j-1,by omega⟩
   have hl:=uZ hy (show y.length≤x.length by omega)
   have hb:=VA pP bx hy (show y.length≤x.length by omega)
   obtain⟨m,q,hm,hms,hq,h4⟩:=Y9 pP cy hy n j _ (YV y x) (Cn.dJ _ _) (by omega) hb (by omega)
   have CC:=dK cy hy
   have e1:(j+1)*s'=j*s'+s':=by rw [Nat.add_mul];omega
   have e2:(j+1)*(2*s'+N+2)=j*(2*s'+N+2)+(2*s'+N+2):=by rw [Nat.add_mul];omega
   have e3:j*s'≤j*(2*s'+N+2):=Nat.mul_le_mul_left _ (by omega)
   have sx:sz 2 (zJ (lead y)*lead x)≤s:=by
    refine Nat.le_trans (cK (b:=2) (by decide) ?_) (gO bx)
    rw [Int.natAbs_mul]
    have:(zJ (lead y)).natAbs=1:=by unfold zJ;split<;>rfl
    rw [this,Nat.one_mul];exact Nat.le_refl _
   have iP:=(Bd.aN (b:=2) (by decide) (Bd.sH (b:=2) sx (x.length-y.length)) hms)
   have hlen:=bx.len
   refine⟨m*(lead y).natAbs,fL q (aN (sH (x.length-y.length) (zJ (lead y)*lead x)) m),Int.mul_pos hm (by omega),?_,?_,fun t=>?_⟩
   ·have h8:sz 2 ((lead y).natAbs:Int)≤s':=Nat.le_trans (cK (b:=2) (by decide) (by simp)) (gO pP)
    have:=cO (b:=2) (by decide) hms h8
    omega
   ·refine(Bd.fL (b:=2) (s:=s+(j+1)*(2*s'+N+2)-1) (by decide) (hq.mono (by omega) (Nat.le_refl _)) (iP.mono (by omega) (by omega))).mono (by omega) (Nat.le_refl _)
   ·have h5:=aff t y x
    have h6:=h4 t
    rw [qS,cR,oZ]
    have:m*((lead y).natAbs:Int)*V t x=m*(((lead y).natAbs:Int)*V t x):=by grind
    rw [this,h5]
    grind
theorem apy{s n:Nat}{a b:ZX}(ha:BZ s n a)(hb:BZ s n b)(h0:b≠0):∃(m:Int) (q:ZX),0<m∧sz 2 m≤(n+1)*s+1∧BZ (s+(n+1)*(2*s+n+2)) n q∧((nx a b=0∧K m*a=q*b)∨(nx a b≠0 ∧ ∃k:Int,0<k∧K m*a=q*b-K k*nx a b)):=by
 obtain⟨R8,hN,_⟩:=u0 (a:=a) h0
 obtain⟨m,q,hm,hms,hq,e⟩:=Y9 hb b.c (ZX.aI.1 h0) (a.l.length+1) (n+1) s a.l a.c (by omega) ha (by have:=ha.len;have:=ZX.aI.1 h0;show a.l.length+1≤b.l.length+(n+1);omega)
 rw [←R8]at e
 have e1:K m*a=ZX.of q*b+rz a b:=ZX.ext fun t=>by rw [eK,yL,nD,eK,abf];exact e t
 refine⟨m,ZX.of q,hm,hms,Bd.cut hq,?_⟩
 by_cases hr:rz a b=0
 ·left
  refine⟨?_,by rw [e1,hr];grind⟩
  exact ZX.ext fun t=>by
   show V t (fU (kK (rz a b).l))=_
   rw [hr];rfl
 ·right
  have hrn:(rz a b).l ≠ []:=vB hr
  have hp:=FL (rz a b).c hrn
  have hg:=c7 (rz a b).c hrn
  have hnx:K (bV (rz a b).l:Int)*nx a b = -(rz a b):=ZX.ext fun t=>by
   rw [eK,yL,IY]
   show _*V t (fU (kK (rz a b).l))=_
   rw [wF]
   have h2:V t (rz a b).l=V t (kK (rz a b).l)*(bV (rz a b).l:Int):=by rw [←dY,hp]
   rw [h2];grind
  refine⟨fun h=>hr ?_,_,Int.natCast_pos.2 (Nat.pos_of_ne_zero hg),by rw [hnx,e1];grind⟩
  rw [h]at hnx
  have:(rz a b) = -(K (bV (rz a b).l:Int)*0):=by rw [hnx];grind
  rw [this];grind
theorem Q3{a b:ZX}(hb:b≠0)(hg:gz a b=1)(hd:dv b a):∃c:Int,c≠0∧b=K c:=by
 have h1:=(eJ a b).least hd (dv.refl b)
 rw [hg]at h1
 have h2:=h1.mD oI
 rw [ZX.r9]at h2
 have:=ZX.aI.1 hb
 exact ZX.lC (by omega)
def M5(C n β:Nat):Nat:=C+(n+1)*(2*C+n+2)+n*(β+2)+2
theorem ZA{C n β:Nat}(hn:n≤20):∀(k s:Nat) (a b:ZX),ZX.N b≤k→b≠0→BZ s n a→BZ s n b→BX C n s a b→gz a b=1→StC (2^M5 C n β) (2^β) (a::wV k a b) ∧ ∀p∈wV k a b,BZ C n p
 | 0,s,a,b,hk,h0,_,_,_,_=>absurd hk (by have:=ZX.aI.1 h0;omega)
 | k+1,s,a,b,hk,h0,ha,hb,hp,hg=>by
  have hs:=hp.le
  have hNb:=ZX.aI.1 h0
  obtain⟨m,q,hm,hms,hq,hr⟩:=apy ha hb h0
  rw [wV,if_neg (by omega)]
  have hbC:BZ C n b:=hb.mono (by omega) (Nat.le_refl _)
  rcases hr with ⟨hz,e1⟩ | ⟨hz,kk,hkk,e1⟩
  ·rw [hz,lG]
   exact⟨Q3 h0 hg ⟨m,by omega,q,e1⟩,fun p hp=>by
    simp only [List.mem_cons,List.not_mem_nil,or_false]at hp
    subst hp;exact hbC⟩
  ·have hN:=abn (a:=a) h0
   have pV:gz b (nx a b)=1:=by
    rw [←hg]
    exact(LV (c:=m) (k := -kk) (q:=q) (by omega) (by omega) (by rw [e1,show K (-kk) = -K kk from ZX.ext fun t=>by rw [yL,IY,yL]];grind)).symm
   obtain⟨ih,ih2⟩:=ZA hn k _ b (nx a b) (by omega) hz (hb.mono (Nat.le_add_right _ _) (Nat.le_refl _)) (Y1 ha hb h0) (hp.step hN) pV
   refine⟨?_,fun p hp=>?_⟩
   ·obtain⟨k2,rfl⟩:∃k2,k=k2+1:=⟨k-1,by have:=ZX.aI.1 hz;omega⟩
    rw [wV,if_neg (by have:=ZX.aI.1 hz;omega)]at ih ⊢
    have c1:(n+1)*s≤(n+1)*(2*C+n+2):=Nat.mul_le_mul_left _ (by omega)
    have c2:(n+1)*(2*s+n+2)≤(n+1)*(2*C+n+2):=Nat.mul_le_mul_left _ (by omega)
    refine⟨ih,m,kk,q,hm,hkk,e1,?_,fun t ht=>?_⟩
    ·have h1:=(alQ hms).2
     have h2:=mF (show (n+1)*s+1+1≤M5 C n β by unfold M5;omega)
     rw [Rat.pow_succ]at h2
     grind
    ·have h1:=(BZ.aAS hq ht)
     have h2:=(Ab.mul (x:=2) (M:=2) ⟨by decide,by decide⟩ h1)
     refine h2.mono ?_
     have h3:=mF (show s+(n+1)*(2*s+n+2)+n*(β+2)+1≤M5 C n β by unfold M5;omega)
     rw [Rat.pow_succ]at h3
     grind
   ·rcases List.mem_cons.1 hp with rfl | hp
    ·exact hbC
    ·exact ih2 p hp
theorem Q4:∀(k:Nat) (a b:ZX),(wV k a b).length≤ZX.N b
 | 0,a,b=>by simp [wV]
 | k+1,a,b=>by
  rw [wV]
  split
  ·simp
  ·rename_i h0
   have:=abn (a:=a) (ZX.aI.2 (Nat.pos_of_ne_zero h0))
   have:=Q4 k b (nx a b)
   simp only [List.length_cons];omega
theorem avE{a:ZX}(ha:a≠0):∃c:Int,0<c∧a=K c*sB a:=by
 have hp:=FL a.c (vB ha)
 refine⟨(bV a.l:Int),Int.natCast_pos.2 (Nat.pos_of_ne_zero (c7 a.c (vB ha))),ZX.ext fun t=>?_⟩
 rw [eK,yL]
 show _=_*V t (kK a.l)
 have h2:V t a.l=V t (kK a.l)*(bV a.l:Int):=by rw [←dY,hp]
 rw [h2];grind
theorem ajq{C s n β:Nat}{f:ZX}(hn:n≤20)(hf:f≠0)(hb:BZ (s+5) n f)(hp:BX C n (s+5) f (sB (b9 f)))(bd:BZ (s+5) n (sB (b9 f)))(hg:gz f (b9 f)=1):StC (2^M5 C n β) (2^β) (aR f)∧(∀p∈aR f,BZ C n p)∧(aR f).length≤n+1 ∧ ∀g k,wV (ZX.N f) f (sB (b9 f))=g::k → ∃c:Int,0<c∧b9 f=K c*g:=by
 have hs:=hp.le
 have hfC:BZ C n f:=hb.mono (by omega) (Nat.le_refl _)
 have hNf:=hb.N
 have h1:=nG f
 have h2:ZX.N (sB (b9 f))≤ZX.N (b9 f):=mQ _
 by_cases h0:b9 f=0
 ·have BK:sB (b9 f)=0:=by rw [h0];exact ZX.ext fun t=>rfl
  have hc:aR f = [f]:=by unfold aR;rw [BK,lG]
  rw [hc]
  have hN1:ZX.N f≤1:=Classical.byContradiction fun h=>FG (a:=f) (by omega) h0
  refine⟨ZX.lC (by have:=ZX.aI.1 hf;omega),fun p hp=>by
   simp only [List.mem_cons,List.not_mem_nil,or_false]at hp
   subst hp;exact hfC,by simp,fun g k h=>?_⟩
  rw [BK,lG]at h;cases h
 ·obtain⟨c,hc,e⟩:=avE h0
  have BK:sB (b9 f)≠0:=fun h=>h0 (by rw [e,h];grind)
  have pV:gz f (sB (b9 f))=1:=by
   rw [←hg]
   refine FJ (dv.refl f) (dv.refl f) ⟨1,by decide,K c,by rw [e];show(1:ZX)*_=_;grind⟩ ⟨c,by omega,1,by grind⟩
  obtain⟨g1,g2⟩:=ZA (β:=β) hn (ZX.N f) (s+5) f (sB (b9 f)) (by omega) BK hb bd hp pV
  refine⟨g1,fun p hp=>?_,?_,fun g k h=>?_⟩
  ·rcases List.mem_cons.1 hp with rfl | hp
   ·exact hfC
   ·exact g2 p hp
  ·have:=Q4 (ZX.N f) f (sB (b9 f))
   show(f::wV (ZX.N f) f (sB (b9 f))).length≤_
   simp only [List.length_cons]
   omega
  ·obtain⟨j,hj⟩:∃j,ZX.N f=j+1:=⟨ZX.N f-1,by have:=ZX.aI.1 hf;omega⟩
   rw [hj,wV,if_neg (by have:=ZX.aI.1 BK;omega)]at h
   cases h
   exact⟨c,hc,e⟩
theorem ZB(μ:Nat):∀k,(2:Rat)^(μ*k)*CO (2^μ) k=1
 | 0=>by simp [CO]
 | k+1=>by
  have h1:=ZB μ k
  have h2:CO (2^μ) (k+1)=CO (2^μ) k/2^μ:=rfl
  have h3:CO ((2:Rat)^μ) k/2^μ*2^μ=CO (2^μ) k:=Rat.div_mul_cancel (Rat.ne_of_gt (two_pow_pos μ))
  rw [h2,Nat.mul_add,Nat.mul_one,pB]
  grind
def jb(C n β:Nat):Nat:=(n+1)*M5 C n β+C+n*(β+2)+1
theorem ZC{C s n β:Nat}{f:ZX}(hn:n≤20)(hf:f≠0)(hb:BZ (s+5) n f)(hp:BX C n (s+5) f (sB (b9 f)))(bd:BZ (s+5) n (sB (b9 f)))(hg:gz f (b9 f)=1){δ:Rat}(hδ:δ*2^jb C n β≤1):Lcl (aR f) f (2^β) δ:=by
 obtain⟨h1,h2,h3,h4⟩:=ajq (β:=β) hn hf hb hp bd hg
 have hM:(2:Rat)≤2^M5 C n β:=by
  have:=mF (show 1≤M5 C n β by unfold M5;omega)
  rw [Rat.pow_one]at this
  exact this
 refine StC.loc (Q:=2^(C+n*(β+2))) hM (pC β) (Rat.le_of_lt (two_pow_pos C)) h1 (fun p hp=>⟨(h2 p hp).ab,?_⟩) h4 ?_
 ·rw [L8]
  exact mF (by have:=Nat.mul_le_mul_right (β+2) (h2 p hp).len;omega)
 ·have e1:=ZB (M5 C n β) (aR f).length
  have hε:=yR hM (aR f).length
  have h5:M5 C n β*(aR f).length+(C+n*(β+2))+1≤jb C n β:=by
   have:=Nat.mul_le_mul_left (M5 C n β) h3
   rw [Nat.mul_comm (M5 C n β) (n+1)]at this
   unfold jb;omega
  have h6:=mF h5
  rw [Rat.pow_succ,pB]at h6
  have hA:=two_pow_pos (M5 C n β*(aR f).length)
  have hB:=two_pow_pos (C+n*(β+2))
  show δ*2^(C+n*(β+2))<CO (2^M5 C n β) (aR f).length
  generalize (2:Rat)^(M5 C n β*(aR f).length)=A at *
  generalize (2:Rat)^(C+n*(β+2))=Q at *
  generalize CO ((2:Rat)^M5 C n β) (aR f).length=ε at *
  generalize (2:Rat)^jb C n β=J at *
  by_cases h0:0<δ
  ·have h7:=Rat.mul_le_mul_of_nonneg_left h6 (Rat.le_of_lt h0)
   have h8:δ*Q*A≤1/2:=by grind
   refine Rat.lt_of_mul_lt_mul_right (c:=A) ?_ (Rat.le_of_lt hA)
   grind
  ·have h7:=Rat.mul_le_mul_of_nonneg_right (show δ≤0 by grind) (Rat.le_of_lt hB)
   grind
theorem L9:∀(l:List Int) (n:Nat) (p:Int),(l.foldl wY (n,p)).1=n+HF p l
 | [],n,p=>rfl
 | s::l,n,p=>by
  have h:wY (n,p) s=if s=0 then(n,p)else(if p≠0∧s≠p then n+1 else n,s):=rfl
  rw [List.foldl_cons,h]
  simp only [HF]
  split
  ·exact L9 l n p
  ·split<;>rw [L9 l]<;>omega
theorem VK(l:List Int):vr l=HF 0 l:=by
 rw [vr,L9];omega
theorem alR{n d:Int}{q:Rat}(h:(n:Rat)=q*d):∀x:List Int,((hm n d x).1:Rat)*d=qv q x*(d:Rat)^x.length∧((hm n d x).2:Rat)=(d:Rat)^x.length
 | []=>by
  refine⟨?_,?_⟩
  ·show((0:Int):Rat)*d=0*_
   rw [Rat.intCast_zero,Rat.zero_mul,Rat.zero_mul]
  ·show((1:Int):Rat)=(d:Rat)^0
   rw [Rat.intCast_one,Rat.pow_zero]
 | a::l=>by
  obtain⟨h1,h2⟩:=alR h l
  have e:hm n d (a::l)=((hm n d l).1*n+a*(hm n d l).2,(hm n d l).2*d):=rfl
  rw [e]
  simp only [qv,List.length_cons,Rat.pow_succ,Rat.intCast_add,Rat.intCast_mul]
  rw [h,h2]
  refine⟨?_,rfl⟩
  have:(((hm n d l).1:Rat)*(q*d)+a*(d:Rat)^l.length)*d=((hm n d l).1:Rat)*d*(q*d)+a*((d:Rat)^l.length*d):=by grind
  rw [this,h1];grind
theorem abA(v:Int):v.sign=cH (v:Rat):=by
 rcases Int.lt_trichotomy v 0 with h | h | h
 ·rw [Int.sign_eq_neg_one_of_neg h,fS (Rat.intCast_neg_iff.2 h)]
 ·subst h;decide
 ·rw [Int.sign_eq_one_of_pos h,eF (Rat.intCast_pos.2 h)]
theorem yT(p:ZX)(q:Rat):LX p.l q.num q.den=cH (e q p):=by
 have hd:(0:Rat)<((q.den:Int):Rat):=Rat.intCast_pos.2 (by have:=q.den_pos;omega)
 have hq:((q.num:Int):Rat)=q*((q.den:Int):Rat):=by
  have h1:q=(q.num:Rat)/((q.den:Int):Rat):=by
   rw [←Rat.divInt_eq_div,Rat.num_divInt_den]
  have h2:=Rat.div_mul_cancel (a:=(q.num:Rat)) (Rat.ne_of_gt hd)
  rw [←h1]at h2
  exact h2.symm
 have h1:=(alR hq p.l).1
 show(hm q.num q.den p.l).1.sign=cH (qv q p.l)
 rw [abA]
 have h2:cH (((hm q.num q.den p.l).1:Rat)*((q.den:Int):Rat))=cH (qv q p.l*((q.den:Int):Rat)^p.l.length):=by rw [h1]
 rw [u4,u4,eF hd,eF (Rat.pow_pos hd)]at h2
 omega
theorem FU(c:List ZX)(q:Rat):vr (pA c q.num q.den)=vt c q:=by
 rw [VK]
 unfold vt pA HG
 congr 1
 exact List.map_congr_left fun p _=>yT p q
theorem apz(c:List ZX):∃S:Rat,0≤S ∧ ∀p∈c,∀x∈p.l,Ab (x:Rat) S:=by
 induction c with
 | nil=>exact⟨0,Rat.le_refl,fun p hp=>by cases hp⟩
 | cons a c ih =>
  obtain⟨S,hS,h⟩:=ih
  obtain⟨A,hA,ha⟩:=C9 a.l
  refine⟨S+A,by grind,fun p hp x hx=>?_⟩
  rcases List.mem_cons.1 hp with rfl | hp
  ·exact(ha x hx).mono (by grind)
  ·exact(h p hp x hx).mono (by grind)
theorem afy(c:List ZX):∃X:Rat,1≤X∧(∀t,X≤t→vt c t=vr (sgR c)) ∧ ∀t,t ≤ -X→vt c t=vr (sgL c):=by
 obtain⟨S,hS,h⟩:=apz c
 refine⟨S+1,by grind,fun t ht=>?_,fun t ht=>?_⟩
 ·rw [VK]
  unfold vt sgR HG
  congr 1
  exact List.map_congr_left fun p hp=>(I8 hS p.c (h p hp)).1 ht
 ·rw [VK]
  unfold vt sgL HG
  congr 1
  exact List.map_congr_left fun p hp=>(I8 hS p.c (h p hp)).2 ht
theorem oM{a:ZX}(ha:a≠0):Nf (sq a) ∧ ∀p,ZX.rG p→ZX.mu p (sq a)=min (ZX.mu p a) 1:=by
 have hA:=jK ha
 unfold sq
 split
 ·rename_i h
  refine⟨hA,fun p hp=>?_⟩
  obtain⟨c,hc,rfl⟩:=ZX.lC (x:=a) (by have:=ZX.aI.1 ha;omega)
  rw [ae3 hp ha,ZX.abh hp hc];rfl
 ·exact⟨ae6 hA,fun p hp=>by rw [ae7 hA hp,ae3 hp ha]⟩
theorem ZD{a:ZX}(ha:a≠0):gz (sq a) (b9 (sq a))=1:=by
 obtain⟨h1,h2⟩:=oM ha
 refine Nf.tW (YQ h1.ne) Nf.one fun p hp=>?_
 have e1:mu p (1:ZX)=0:=abh hp (by decide)
 have h3:=alG h1.ne hp
 rw [h2 p hp]at h3
 rw [e1]
 show mu p (gd (sq a))=0
 rw [h3]
 omega
theorem u6{a:ZX}(ha:a≠0):dv (sq a) a:=(B6 ha).2.trans (I1 a).2
theorem Lcl.mono{L:List ZX}{f:ZX}{B C δ:Rat}(h:Lcl L f B δ)(hc:C≤B):Lcl L f C δ:=
 ⟨fun s t hs ht=>h.turns s t (hs.mono hc) (ht.mono hc),fun s t hs ht=>h.simple s t (hs.mono hc) (ht.mono hc)⟩
theorem VL(B:Rat):∃β:Nat,B≤2^β:=by
 have h1:=Rat.lt_floor_add_one B
 refine⟨(B.floor+1).toNat,Rat.le_trans (Rat.le_of_lt h1) ?_⟩
 have h2:((2^(B.floor+1).toNat:Int):Rat)=2^(B.floor+1).toNat:=by rw [Rat.intCast_pow];rfl
 rw [←h2]
 refine Rat.intCast_le_intCast.2 ?_
 have h3:(B.floor+1).toNat<2^(B.floor+1).toNat:=Nat.lt_two_pow_self
 have h4:((2^(B.floor+1).toNat:Nat):Int)=2^(B.floor+1).toNat:=by rw [Int.natCast_pow];rfl
 omega
theorem Ch.abB{s n:Nat}{f:ZX}(h:Ch s n f)(hf:f≠0)(hg:gz f (b9 f)=1):CP (aR f) f:=⟨fun B hB=>by
 have hn:=h.hn
 obtain⟨β,hβ⟩:=VL B
 have bd:BZ (s+5) n (b9 f):=h.bz.b9 (by omega)
 have hJ:=two_pow_pos (jb 4500000000 n β)
 have hJ1:(1:Rat)/2^jb 4500000000 n β*2^jb 4500000000 n β=1:=Rat.div_mul_cancel (Rat.ne_of_gt hJ)
 refine⟨1/2^jb 4500000000 n β,(Rat.lt_div_iff hJ).2 (by grind),?_⟩
 exact Lcl.mono (ZC hn hf (h.bz.mono (by omega) (Nat.le_refl _)) h.pot (jL bd) hg (by rw [hJ1];exact Rat.le_refl)) hβ⟩
def oN(t:Rat):ZX:=of [-t.num,(t.den:Int)]
theorem apA(s t:Rat):e s (oN t)=((t.den:Int):Rat)*(s-t):=by
 rw [oN,avy,Rat.intCast_neg]
 have hd:(0:Rat)<((t.den:Int):Rat):=Rat.intCast_pos.2 (by have:=t.den_pos;omega)
 have hq:((t.num:Int):Rat)=t*((t.den:Int):Rat):=by
  have h1:t=(t.num:Rat)/((t.den:Int):Rat):=by
   rw [←Rat.divInt_eq_div,Rat.num_divInt_den]
  have h2:=Rat.div_mul_cancel (a:=(t.num:Rat)) (Rat.ne_of_gt hd)
  rw [←h1]at h2
  exact h2.symm
 rw [hq];grind
theorem AL(t:Rat):ZX.N (oN t)=2:=by
 have:aL [-t.num,(t.den:Int)] = [-t.num,(t.den:Int)]:=iZ (x:=(t.den:Int)) (by have:=t.den_nz;omega) [-t.num]
 show(aL [-t.num,(t.den:Int)]).length=2
 rw [this];rfl
theorem abC{L:List ZX}{f:ZX}(h:CP L f){b:Rat}(hb:∀a,Bg a b f):vr (sgL L)=vt L b:=by
 obtain⟨X,hX,_,h2⟩:=afy L
 by_cases zP:b ≤ -X
 ·exact(h2 b zP).symm
 ·rw [←h2 (-X) Rat.le_refl]
  exact h.bg (hb (-X)) (Rat.not_le.1 zP)
theorem VM{L:List ZX}{f:ZX}(h:CP L f){a:Rat}(ha:∀b,Bg a b f):vr (sgR L)=vt L a:=by
 obtain⟨X,hX,h1,_⟩:=afy L
 by_cases zP:X≤a
 ·exact(h1 a zP).symm
 ·rw [←h1 X Rat.le_refl]
  exact(h.bg (ha X) (Rat.not_le.1 zP)).symm
theorem kG(p q:Rat):(dQ (p.num*q.den) (q.num*p.den)<0)↔p<q:=by
 rw [n6,Rat.lt_iff]
theorem afz(C:List ZX)(q:Rat):vt C q≤C.length:=by
 have:=FT (pA C q.num q.den)
 rw [FU]at this
 simpa [pA]using this
theorem FV{n d:Int}(h:d≠0):dR n d=(n:Rat)/d:=by rw [dR,if_neg h,Rat.divInt_eq_div]
theorem MA{n d:Int}(h:d≠0){q:Rat}(e:(n:Rat)=q*d):dR n d=q:=by
 have hd:(d:Rat)≠0:=fun h0=>h (Rat.intCast_eq_zero_iff.1 h0)
 rw [FV h,e,Rat.mul_div_cancel hd]
theorem yU(q:Rat):((q.num:Int):Rat)=q*((q.den:Int):Rat):=by
 have hd:(0:Rat)<((q.den:Int):Rat):=Rat.intCast_pos.2 (by have:=q.den_pos;omega)
 have h1:q=(q.num:Rat)/((q.den:Int):Rat):=by
  rw [←Rat.divInt_eq_div,Rat.num_divInt_den]
 have h2:=Rat.div_mul_cancel (a:=(q.num:Rat)) (Rat.ne_of_gt hd)
 rw [←h1]at h2
 exact h2.symm
theorem ajr{n d:Int}(hn:sz LL n<1099511627770)(hd:sz LL d<1099511627770)(h0:d≠0):aD env.P 160 [I n,I d] (.fE [RT (dR n d), .int .i64 0]):=by
 have n1:=K2 (x:=d) (by show _<_;omega)
 have n2:=K2 (x:=n) (by show _<_;omega)
 have z1:=I9 d
 have l1:=rN hn hd h0
 rw [show decide (d=0)=false from decide_eq_false h0]at z1
 show aD env.P _ _ (.fE [T2 (dR n d).num (dR n d).den,_])
 replace l1:aD env.P 179 [I n,I d] (T2 (dR n d).num (dR n d).den):=l1
 generalize (dR n d).num=rn at *
 generalize ((dR n d).den:Int)=rd at *
 refine b6 [(0,I n),(1,I d)] Tryz.func160 ?_
 refine aA [2,3,4] ?_
 refine W.seq ?_
 refine aJ [2,3,4] n1 ?_
 refine aJ [2,3,4,9] z1 ?_
 refine bF ?_ ?_<;>intro h
 ·simp at h
 refine W.skip ?_
 refine W.sd ?_
 simp (maxSteps:=4000000) (disch:=omega) [gw]
 refine aB n2 ?_
 simp (maxSteps:=4000000) (disch:=omega) [gw]
 refine aB l1 ?_
 simp (maxSteps:=4000000) (disch:=omega) [gw]
 (try (refine a9 (of_decide_eq_true (by kernel_rfl)) ?_));(try simp (maxSteps:=4000000) (disch:=omega) [gw]);(repeat rw [if_pos (by kernel_rfl)]);(try simp (maxSteps:=4000000) (disch:=omega) [gw])
 refine bN [4,5] ?_
 exact b7
theorem apB(p q:Rat):dR (p.num*q.den+q.num*p.den) (p.den*q.den*2)=(p+q)/2:=by
 have h1:((p.den:Int)*q.den*2)≠0:=by
  have:=p.den_nz;have:=q.den_nz
  refine Int.mul_ne_zero (Int.mul_ne_zero ?_ ?_) (by decide)<;>omega
 refine MA h1 ?_
 rw [Rat.intCast_add,Rat.intCast_mul,Rat.intCast_mul,Rat.intCast_mul,Rat.intCast_mul,yU p,yU q]
 have h2:(p+q)/2*2=p+q:=Rat.div_mul_cancel (by decide)
 show _=(p+q)/2*(((p.den:Int):Rat)*((q.den:Int):Rat)*2)
 generalize (p+q)/2=m at *
 grind
theorem Q5{p q:Rat}{k:Nat}(hp:sz LL p.num≤k∧sz LL (p.den:Int)≤k)(hq:sz LL q.num≤k∧sz LL (q.den:Int)≤k)(hk:k≤300000000000):aD env.P 95 [RT p,RT q] (RT ((p+q)/2)):=by
 have c1:=AJ hp.1 hp.2 hq.1 hq.2 (by omega) (bB p) (bB q) hp hq
 have g1:=cO (b:=LL) eB hp.1 hq.2
 have g2:=cO (b:=LL) eB hq.1 hp.2
 have g3:=cO (b:=LL) eB hp.2 hq.2
 have s2:sz LL 2≤1:=cQ (k:=1) eB (by decide)
 have g4:=cO (b:=LL) eB g3 s2
 have g5:=n9 (b:=LL) eB (Nat.le_trans g1 (show k+k≤k+k from Nat.le_refl _)) (Nat.le_trans g2 (show k+k≤k+k from Nat.le_refl _))
 have a1:=XL (x:=p.num*q.den) (y:=q.num*p.den) (by show _<_;omega) (by show _<_;omega)
 have o1:=wH 2 (by decide) (by decide)
 have m1:=vP (x:=(p.den:Int)*q.den) (y:=2) (by show _<_;omega) (by show _<_;omega)
 have h1:((p.den:Int)*q.den*2)≠0:=by
  have:=p.den_nz;have:=q.den_nz
  refine Int.mul_ne_zero (Int.mul_ne_zero ?_ ?_) (by decide)<;>omega
 have l1:=rN (n:=p.num*q.den+q.num*p.den) (d:=p.den*q.den*2) (by omega) (by omega) h1
 rw [apB]at l1
 show aD env.P _ [T2 p.num p.den,T2 q.num q.den] (T2 ((p+q)/2).num ((p+q)/2).den)
 replace l1:aD env.P 179 [I (p.num*q.den+q.num*p.den),I (p.den*q.den*2)] (T2 ((p+q)/2).num ((p+q)/2).den):=l1
 clear g1 g2 g3 g4 g5 h1 hp hq
 generalize ((p+q)/2).num=rn at *
 generalize (((p+q)/2).den:Int)=rd at *
 generalize p.num*(q.den:Int)+q.num*p.den=x4 at *
 generalize (p.den:Int)*q.den*2=x5 at *
 generalize p.num*(q.den:Int)=x1 at *
 generalize q.num*(p.den:Int)=x2 at *
 generalize (p.den:Int)*(q.den:Int)=x3 at *
 generalize p.num=pn at *
 generalize (p.den:Int)=pd at *
 generalize q.num=qn at *
 generalize (q.den:Int)=qd at *
 refine b6 [(0,T2 pn pd),(1,T2 qn qd)] Tryz.func95 ?_
 refine aA [2,3,4] ?_
 refine aJ [4,5,6,7] c1 ?_
 refine W.sd ?_
 simp (maxSteps:=4000000) (disch:=omega) [gw]
 refine aB a1 ?_
 simp (maxSteps:=4000000) (disch:=omega) [gw]
 refine aB o1 ?_
 simp (maxSteps:=4000000) (disch:=omega) [gw]
 refine aB m1 ?_
 simp (maxSteps:=4000000) (disch:=omega) [gw]
 refine aB l1 ?_
 simp (maxSteps:=4000000) (disch:=omega) [gw]
 (try (refine a9 (of_decide_eq_true (by kernel_rfl)) ?_));(try simp (maxSteps:=4000000) (disch:=omega) [gw]);(repeat rw [if_pos (by kernel_rfl)]);(try simp (maxSteps:=4000000) (disch:=omega) [gw])
 refine bN [4] ?_
 exact b7
theorem abD{p:Rat}(hp:sz LL p.num<1099511627770∧sz LL (p.den:Int)<1099511627770):aD env.P 77 [RT p] (RT (-p)):=by
 have n1:=nZ hp.1 hp.2
 rw [bB]at n1
 have n2:=adY (x:=p.num) (by show _<_;omega)
 replace n1:aD env.P 161 [T2 p.num p.den] (T2 p.num p.den):=n1
 show aD env.P _ [T2 p.num p.den] (T2 (-p).num (-p).den)
 rw [Rat.neg_num,Rat.neg_den]
 generalize -p.num=rn at *
 generalize p.num=pn at *
 generalize (p.den:Int)=pd at *
 refine b6 [(0,T2 pn pd)] Tryz.func77 ?_
 refine aA [1,2] ?_
 refine aJ [1,2] n1 ?_
 refine aJ [1,2] n2 ?_
 refine aA [2] ?_
 exact b7
theorem Q6{p q:Rat}(hp:ZR YY p)(hq:ZR YY q)(hs:ZR YY (p+q)):aD env.P 209 [RR p,RR q] (RR ((p+q)/2)):=by
 have a1:=x9 p q hp hq
 have o1:=rD 1 2 (by decide) (by decide)
 have m1:=E5 (p+q) (dR 1 2) hs ⟨by decide,by decide⟩
 have e:(p+q)*dR 1 2=(p+q)/2:=by
  rw [show dR 1 2=(1:Rat)/2 by rw [FV (by decide)];rfl];grind
 rw [e]at m1
 rw [cS]at *
 rw [cS q,cS (p+q),cS (dR 1 2)]at *
 generalize (p+q)/2=m at *
 generalize p+q=s at *
 generalize dR 1 2=hf at *
 generalize p.num=pn at *
 generalize (p.den:Int)=pd at *
 generalize q.num=qn at *
 generalize (q.den:Int)=qd at *
 generalize s.num=sn at *
 generalize (s.den:Int)=sd at *
 generalize hf.num=fn at *
 generalize (hf.den:Int)=fd at *
 rw [cS]at *
 generalize m.num=mn at *
 generalize (m.den:Int)=md at *
 refine b6 [(0,R2 pn pd),(1,R2 qn qd)] Tryz.func209 ?_
 refine aA [2,3,4] ?_
 refine iM ?_
 refine bW a1 ?_
 refine bW o1 ?_
 refine bU [4] m1 ?_
 exact b7
theorem afA{d:Int}(h:sz LL d<4294967296):aD env.P 169 [I d] (RI d):=by
 have h1:=uO (decide (d<0)) (aP LL d.natAbs) (by have:sz LL d=(aP LL d.natAbs).length:=rfl;omega) (eN eB _)
 rw [show iv (decide (d<0)) (aP LL d.natAbs)=d from OM d]at h1
 exact h1
theorem abE{p:Rat}(hp:sz LL p.num<4294967296∧sz LL (p.den:Int)<4294967296)(hY:Y p.num∧Y (p.den:Int)):aD env.P 86 [RT p] (RR p):=by
 have f1:=afA hp.1
 have f2:=afA hp.2
 have m1:=jJ p.num p.den hY.1 hY.2
 rw [bB,cS]at m1
 rw [cS]
 show aD env.P _ [T2 p.num p.den] _
 replace f1:aD env.P 169 [I p.num] (RI p.num):=f1
 replace f2:aD env.P 169 [I (p.den:Int)] (RI (p.den:Int)):=f2
 generalize p.num=pn at *
 generalize (p.den:Int)=pd at *
 refine b6 [(0,T2 pn pd)] Tryz.func86 ?_
 refine aA [1,2] ?_
 refine W.sd ?_
 simp (maxSteps:=4000000) (disch:=omega) [gw]
 refine aB f1 ?_
 simp (maxSteps:=4000000) (disch:=omega) [gw]
 refine aB f2 ?_
 simp (maxSteps:=4000000) (disch:=omega) [gw]
 refine aB m1 ?_
 simp (maxSteps:=4000000) (disch:=omega) [gw]
 (try (refine a9 (of_decide_eq_true (by kernel_rfl)) ?_));(try simp (maxSteps:=4000000) (disch:=omega) [gw]);(repeat rw [if_pos (by kernel_rfl)]);(try simp (maxSteps:=4000000) (disch:=omega) [gw])
 refine bN [2] ?_
 exact b7
theorem alS{x:Int}(hx:Sz x):aD env.P 158 [I x] (I (x.natAbs:Int)):=by
 have h1:=ael (decide (x<0)) (aP LL x.natAbs) hx.SA
 rw [show V 4294967296 (aP LL x.natAbs)=(x.natAbs:Int)from jG eB _]at h1
 exact h1
def mG(x:List Int):Nat→Int
 | 0=>0
 | i+1=>if mG x i<((nth x i).natAbs:Int)then((nth x i).natAbs:Int)else mG x i
theorem afB(x:List Int):∀i,0≤mG x i
 | 0=>Int.le_refl _
 | i+1=>by
  have:=afB x i
  rw [mG];split<;>omega
theorem afC(x:List Int):∀i k,k<i→((nth x k).natAbs:Int)≤mG x i
 | 0,k,h=>by omega
 | i+1,k,h=>by
  rw [mG]
  by_cases hk:k=i
  ·subst hk;split<;>omega
  ·have:=afC x i k (by omega)
   split<;>omega
theorem w5{b s n:Nat}{x:List Int}(h:Bd b s n x):∀i,Pm.sz b (mG x i)≤s
 | 0=>by show Pm.sz b 0≤s;rw [jO];omega
 | i+1=>by
  have ih:=w5 h i
  have h1:=h.nth i
  have h2:Pm.sz b ((nth x i).natAbs:Int)=Pm.sz b (nth x i):=by unfold Pm.sz;rw [Int.natAbs_natCast]
  rw [mG];split
  ·rw [h2];exact h1
  ·exact ih
def i7(x:List Int):Rat:=dR (((lead x).natAbs:Int)+mG x (x.length-1)) ((lead x).natAbs:Int)
theorem VN{α:Type}{g:α→List PV}{l:List α}{s n:Nat}{x:List Int}(hN:aD env.P 68 [aG g l] (Po x))(cx:Cn x)(hx:x ≠ [])(b:Bd LL s n x)(hs:s<500000000000)(hn:n<500000000000):aD env.P 75 [aG g l] (.fE [RT (i7 x), .int .i64 0]):=by
 have pL:0<x.length:=List.length_pos_iff.2 hx
 have hlen:=b.len
 have CC:=dK cx pL
 have L1:=mB (PB.of b (by omega) (by omega)) cx
 have hld:=gO b
 have A1:=alS (x:=lead x) (Nat.lt_of_le_of_lt hld (by omega))
 have VO:sz LL ((lead x).natAbs:Int)≤s:=Nat.le_trans (cK eB (by simp)) hld
 have hm:=w5 b (x.length-1)
 have S1:=XL (x:=((lead x).natAbs:Int)) (y:=mG x (x.length-1)) (Nat.lt_of_le_of_lt VO (by omega)) (Nat.lt_of_le_of_lt hm (by omega))
 have abc:=n9 (b:=LL) eB VO hm
 have M1:=ajr (n:=((lead x).natAbs:Int)+mG x (x.length-1)) (d:=((lead x).natAbs:Int)) (by omega) (by omega) (by omega)
 replace M1:aD env.P 160 [I (((lead x).natAbs:Int)+mG x (x.length-1)),I ((lead x).natAbs:Int)] (.fE [T2 (i7 x).num (i7 x).den, .int .i64 0]):=M1
 show aD env.P _ _ (.fE [T2 (i7 x).num (i7 x).den,_])
 have C1:∀i,i<x.length→aD env.P 158 [I (nth x i)] (I ((nth x i).natAbs:Int))∧aD env.P 159 [I ((nth x i).natAbs:Int),I (mG x i)] (.int .i64 (dQ ((nth x i).natAbs:Int) (mG x i))):=fun i hi=>by
  have h1:=b.nth i
  have h2:sz LL ((nth x i).natAbs:Int)≤s:=Nat.le_trans (cK eB (by simp)) h1
  exact⟨alS (Nat.lt_of_le_of_lt h1 (by omega)),ad9 (Nat.lt_of_le_of_lt h2 (by omega)) (Nat.lt_of_le_of_lt (w5 b i) (by omega))⟩
 have WS:∀i,mG x (i+1)=if 0<dQ ((nth x i).natAbs:Int) (mG x i)then((nth x i).natAbs:Int)else mG x i:=fun i=>by
  rw [mG]
  by_cases h:mG x i<((nth x i).natAbs:Int)
  ·rw [if_pos h,if_pos (n7.2 h)]
  ·rw [if_neg h,if_neg (fun q=>h (n7.1 q))]
 have h0:mG x 0=0:=rfl
 clear hm abc VO hld
 generalize (i7 x).num=rn at *
 generalize ((i7 x).den:Int)=rd at *
 generalize ((lead x).natAbs:Int)+mG x (x.length-1)=sm at *
 generalize ((lead x).natAbs:Int)=la at *
 generalize mG x=mf at *
 have e1:((x.length:Int)-1).toNat=x.length-1:=by omega
 have e2:(x.length:Int)-1=((x.length-1:Nat):Int):=by omega
 refine b6 [(0,aG g l)] Tryz.func75 ?_
 refine aA [0,2] ?_
 refine aJ [0,2] hN ?_
 refine aM [0,2,13] ?_
 refine bF ?_ ?_<;>intro h
 ·simp at h;exact absurd h hx
 refine W.skip ?_
 refine aA [0,2,4] ?_
 refine W.row (id:=4) (els:=[[.bool false, .nil]]) [[.bool (decide ((0:Int)<0)),us (aP LL (0:Int).natAbs)]] (by simp;first | exact⟨rfl,rfl,rfl⟩ | exact⟨rfl,rfl⟩ | rfl) ⟨⟨.inl rfl, .inr ⟨rfl,rfl⟩,trivial⟩,trivial⟩ ?_
 refine W.seq ?_
 refine W.sr ?_
 simp (disch:=omega) [gw,e1,e2]
 refine bN [0,2,4,19,20,21] ?_
 refine W.block ?_
 refine W.bE (fun k σ=>∃(v2 e2 v4 e4 i:Nat) (rows:Pm.Rows) (clk:Nat),σ=⟨fa [(0,Po x),(2, .ptr 2 v2 0 0),(4, .ptr 4 v4 0 0),(19,aG ie (x.take (x.length-1))),(20, .int .i64 ((x.length-1:Nat):Int)),(21, .int .i64 i)],rows,clk⟩∧i+k=x.length-1 ∧
  rows 2=some ⟨v2,e2,4,[[.bool false, .nil, .bool false, .nil]]⟩∧rows 4=some ⟨v4,e4,2,[[.bool (decide (mf i<0)),us (aP LL (mf i).natAbs)]]⟩) (x.length-1) ?_ ?_
 ·exact⟨_, .refl,_,_,_,_,0,_,_,rfl,by omega,by simp;(first | exact⟨rfl,rfl⟩ | rfl),by rw [h0];simp;(first | exact⟨rfl,rfl⟩ | rfl)⟩
 rintro k _ ⟨v2,e2,v4,e4,i,rows,clk,rfl,EV,cC,fM⟩
 refine cB [0,2,4,19,20,21,22] ?_
 refine bF ?_ ?_<;>intro h
 ·have hi:i<x.length-1:=by simp at h;omega
  have CR:i<x.length:=by omega
  have zF:nth (x.take (x.length-1)) i=nth x i:=by unfold nth;rw [List.getElem?_take_of_lt hi]
  obtain⟨c1,c2⟩:=C1 i CR
  have hm:=WS i
  generalize dQ ((nth x i).natAbs:Int) (mf i)=cv at *
  generalize ((nth x i).natAbs:Int)=ab at *
  generalize nth x i=xi at *
  refine W.skip ?_
  refine W.dV (fun σ=>∃(v2 e2 v4 e4:Nat) (rows:Pm.Rows) (clk:Nat),σ=⟨fa [(0,Po x),(2, .ptr 2 v2 0 0),(4, .ptr 4 v4 0 0),(19,aG ie (x.take (x.length-1))),(20, .int .i64 ((x.length-1:Nat):Int)),(21, .int .i64 i)],rows,clk⟩ ∧
   rows 2=some ⟨v2,e2,4,[[.bool false, .nil, .bool false, .nil]]⟩∧rows 4=some ⟨v4,e4,2,[[.bool (decide (mf (i+1)<0)),us (aP LL (mf (i+1)).natAbs)]]⟩) ?_ ?_
  ·refine W.sr ?_
   simp (disch:=omega) [gw,hi,zF]
   refine bN [0,2,4,6,19,20,21] ?_
   refine aJ [0,2,4,7,19,20,21] c1 ?_
   refine W.sr ?_
   simp (disch:=omega) [gw,fM]
   refine bU [0,2,4,7,19,20,21,30] c2 ?_
   refine bF ?_ ?_<;>intro h
   ·have h:0<cv:=by simpa using h
    rw [if_pos h]at hm
    refine W.cE (fun K hK=>?_);simp (disch:=omega) [gw,fM]
    exact hK _ ⟨_,aC _ [0,2,4,19,20,21],_,_,_,_,_,_,rfl,by simp [cC];exact rfl,by simp [hm];exact rfl⟩
   ·have h:¬0<cv:=by simpa using h
    rw [if_neg h]at hm
    refine W.skip ?_
    exact⟨_,aC _ [0,2,4,19,20,21],_,_,_,_,_,_,rfl,by simp [cC];exact rfl,by simp [hm,fM];exact rfl⟩
  rintro _ ⟨v2,e2,v4,e4,rows,clk,rfl,cC,fM⟩
  refine W.cE (fun K hK=>?_);simp (disch:=omega) [gw]
  refine hK _ ⟨k-1,_,aC _ [0,2,4,19,20,21],by omega,_,_,_,_,i+1,_,_,rfl,by omega,cC,fM⟩
 ·have hi:i=x.length-1:=by simp at h;omega
  subst hi
  refine eV ?_
  refine iM ?_
  refine bW L1 ?_
  refine bU [2,4,8] A1 ?_
  refine W.sd ?_
  simp (disch:=omega) [gw,fM]
  refine aB S1 ?_
  simp (maxSteps:=4000000) (disch:=omega) [gw]
  refine aB M1 ?_
  simp (disch:=omega) [gw,cC]
  (try (refine a9 (of_decide_eq_true (by kernel_rfl)) ?_));(try simp (maxSteps:=4000000) (disch:=omega) [gw,cC]);(repeat rw [if_pos (by kernel_rfl)]);(try simp (maxSteps:=4000000) (disch:=omega) [gw,cC])
  refine bN [2,3] ?_
  exact b7
theorem AM{x:List Int}(cx:Cn x)(hx:x ≠ []):i7 x=1+((mG x (x.length-1):Int):Rat)/(((lead x).natAbs:Int):Rat):=by
 have CC:=dK cx (List.length_pos_iff.2 hx)
 have h1:((lead x).natAbs:Int)≠0:=by omega
 have h2:(((lead x).natAbs:Int):Rat)≠0:=fun h=>h1 (Rat.intCast_eq_zero_iff.1 h)
 refine MA h1 ?_
 rw [Rat.intCast_add]
 have h3:=Rat.div_mul_cancel (a:=((mG x (x.length-1):Int):Rat)) h2
 generalize ((mG x (x.length-1):Int):Rat)/(((lead x).natAbs:Int):Rat)=w at *
 grind
theorem apC{u v:Int}{k:Nat}(hu:sz 2 u≤k)(hv:sz 2 v≤k)(h0:v≠0):ZR k ((u:Rat)/(v:Rat)):=by
 rw [←FV h0]
 have e:∀w:Int,sz 2 (-w)=sz 2 w:=fun w=>by unfold sz;rw [Int.natAbs_neg]
 constructor
 ·rw [rB u v h0]
  refine Nat.le_trans (cK (b:=2) (by decide) (Int.natAbs_ediv_le_natAbs _ _)) ?_
  split
  ·rw [e];exact hu
  ·exact hu
 ·rw [rC u v h0]
  refine Nat.le_trans (cK (b:=2) (by decide) (Int.natAbs_ediv_le_natAbs _ _)) ?_
  split
  ·rw [e];exact hv
  ·exact hv
theorem VP{s n:Nat}{x:List Int}(cx:Cn x)(hx:x ≠ [])(b:Bd 2 s n x)(sO:1≤s)(hs:s≤1000000000)(hn:n<1099511627776):aD env.P 180 [PI x] (RR (i7 x)):=by
 have pL:0<x.length:=List.length_pos_iff.2 hx
 have hlen:=b.len
 have CC:=dK cx pL
 have hY:YY=137438953472:=rfl
 have hO:=rD 1 1 (by decide) (by decide)
 rw [show dR 1 1=1 from by decide]at hO
 have J6:x.length<2→i7 x=1:=fun h=>by
  rw [AM cx hx,show x.length-1=0 by omega]
  show 1+((0:Int):Rat)/_=1
  rw [Rat.intCast_zero,Rat.div_def,Rat.zero_mul,Rat.add_zero]
 have hld:=gO b
 have VO:sz 2 ((lead x).natAbs:Int)≤s:=Nat.le_trans (cK (b:=2) (by decide) (by simp)) hld
 have hm:=w5 b (x.length-1)
 have Z1:∀ {v:Int},sz 2 v≤s→ZR YY ((v:Int):Rat):=fun h=>pN (by omega) (by decide)
 have Q1:=E6 ((mG x (x.length-1):Int):Rat) (((lead x).natAbs:Int):Rat) (Z1 hm) (Z1 VO) (fun h=>by have:=Rat.intCast_eq_zero_iff.1 h;omega)
 have hz:=apC (k:=YY) (Nat.le_trans hm (by omega)) (Nat.le_trans VO (by omega)) (by omega:((lead x).natAbs:Int)≠0)
 have A1:=x9 1 (((mG x (x.length-1):Int):Rat)/(((lead x).natAbs:Int):Rat)) ⟨by decide,by decide⟩ hz
 rw [←AM cx hx]at A1
 have C1:∀i,i<x.length→aD env.P 15 [R2 ((nth x i).natAbs:Int) 1,R2 (mG x i) 1] (.int .i64 (dQ ((nth x i).natAbs:Int) (mG x i))):=fun i hi=>by
  have h1:=b.nth i
  have h2:sz 2 ((nth x i).natAbs:Int)≤s:=Nat.le_trans (cK (b:=2) (by decide) (by simp)) h1
  have h3:=w5 b i
  have:=AG ((nth x i).natAbs:Int) 1 (mG x i) 1 (by omega) (by decide) (by omega) (by decide)
  rwa [Int.mul_one,Int.mul_one]at this
 have WS:∀i,mG x (i+1)=if 0<dQ ((nth x i).natAbs:Int) (mG x i)then((nth x i).natAbs:Int)else mG x i:=fun i=>by
  rw [mG]
  by_cases h:mG x i<((nth x i).natAbs:Int)
  ·rw [if_pos h,if_pos (n7.2 h)]
  ·rw [if_neg h,if_neg (fun q=>h (n7.1 q))]
 have h0:mG x 0=0:=rfl
 have pG:=qC
 have avF:nth x (x.length-1)=lead x:=rfl
 have hd:∀v:Int,decide (((v.natAbs:Int))<0)=false:=fun v=>decide_eq_false (by omega)
 have hna:∀v:Int,((v.natAbs:Int)).natAbs=v.natAbs:=fun v=>Int.natAbs_natCast _
 clear hm hld VO hz Z1
 rw [show RR ((mG x (x.length-1):Int):Rat) = .ag (ri (mG x (x.length-1)))from congrArg PV.ag (gK _),show RR (((lead x).natAbs:Int):Rat) = .ag (ri ((lead x).natAbs:Int))from congrArg PV.ag (gK _)]at Q1
 rw [show RR (1:Rat) = .ag (ri 1)from congrArg PV.ag (gK 1)]at A1 hO
 generalize ((mG x (x.length-1):Int):Rat)/(((lead x).natAbs:Int):Rat)=qq at *
 generalize hbd:i7 x=B at *
 simp only [cS]at Q1 A1 ⊢
 have zP:x.length<2→R2 B.num (B.den:Int) = .ag (ri 1):=fun h=>by rw [J6 h];rfl
 generalize B.num=bn at *
 generalize (B.den:Int)=bd at *
 generalize qq.num=qn at *
 generalize (qq.den:Int)=qd at *
 generalize hmf:mG x=mf at *
 have e1:((x.length:Int)-1).toNat=x.length-1:=by omega
 refine b6 [(0,PI x)] Tryz.func180 ?_
 refine aA [0,2] ?_
 refine aJ [0,2,3] pG ?_
 refine aM [0,2,3,4] ?_
 refine W.block ?_
 refine W.bE (fun k σ=>∃(v2 e2 v3 e3 i:Nat) (rows:Pm.Rows) (clk:Nat),σ=⟨fa [(0,PI x),(2, .ptr 2 v2 0 0),(3, .ptr 3 v3 0 0),(4, .int .i64 i)],rows,clk⟩∧i+k=x.length-1 ∧
  rows 2=some ⟨v2,e2,4,[[.nil, .bool false, .nil, .bool false]]⟩∧rows 3=some ⟨v3,e3,4,[[aG aH (aP DD (mf i).natAbs), .bool (decide (mf i<0)),aG aH (aP DD 1), .bool false]]⟩) (x.length-1) ?_ ?_
 ·exact⟨_, .refl,_,_,_,_,0,_,_,rfl,by omega,by simp;(first | exact⟨rfl,rfl⟩ | rfl),by rw [h0];simp;(first | exact⟨rfl,rfl⟩ | rfl)⟩
 rintro k _ ⟨v2,e2,v3,e3,i,rows,clk,rfl,EV,cC,cM⟩
 refine aM [0,2,3,4,12] ?_
 refine bF ?_ ?_<;>intro h
 ·have hi:i<x.length-1:=by simp at h;omega
  have CR:i<x.length:=by omega
  have c1:=C1 i CR
  have hm:=WS i
  have K5:=hd (nth x i)
  have lT:=hna (nth x i)
  simp only [K5,lT,LY,R2]at c1
  generalize dQ ((nth x i).natAbs:Int) (mf i)=cv at *
  refine W.skip ?_
  refine W.dV (fun σ=>∃(v2 e2 v3 e3:Nat) (rows:Pm.Rows) (clk:Nat),σ=⟨fa [(0,PI x),(2, .ptr 2 v2 0 0),(3, .ptr 3 v3 0 0),(4, .int .i64 i)],rows,clk⟩ ∧
   rows 2=some ⟨v2,e2,4,[[.nil, .bool false, .nil, .bool false]]⟩∧rows 3=some ⟨v3,e3,4,[[aG aH (aP DD (mf (i+1)).natAbs), .bool (decide (mf (i+1)<0)),aG aH (aP DD 1), .bool false]]⟩) ?_ ?_
  ·refine W.sr ?_
   simp (disch:=omega) [gw,CR]
   refine bN [0,2,3,4,5] ?_
   refine aA [0,2,3,4,5] ?_
   refine W.sr ?_
   simp (disch:=omega) [gw,cM]
   refine bU [0,2,3,4,5,24] c1 ?_
   refine bF ?_ ?_<;>intro h
   ·have h:0<cv:=by simpa using h
    rw [if_pos h]at hm
    refine W.cE (fun K hK=>?_);simp (disch:=omega) [gw,cM]
    exact hK _ ⟨_,aC _ [0,2,3,4],_,_,_,_,_,_,rfl,by simp [cC];exact rfl,by simp [hm,K5,lT];exact rfl⟩
   ·have h:¬0<cv:=by simpa using h
    rw [if_neg h]at hm
    refine W.skip ?_
    exact⟨_,aC _ [0,2,3,4],_,_,_,_,_,_,rfl,by simp [cC];exact rfl,by simp [hm,cM];exact rfl⟩
  rintro _ ⟨v2,e2,v3,e3,rows,clk,rfl,cC,cM⟩
  refine W.cE (fun K hK=>?_);simp (disch:=omega) [gw]
  refine hK _ ⟨k-1,_,aC _ [0,2,3,4],by omega,_,_,_,_,i+1,_,_,rfl,by omega,cC,cM⟩
 ·have hi:i=x.length-1:=by simp at h;omega
  subst hi
  refine eV ?_
  refine aM [0,2,3,28] ?_
  refine bF ?_ ?_<;>intro h
  ·have h:x.length<2:=by simp at h;omega
   rw [zP h]
   refine iM ?_
   refine aB hO ?_
   simp (disch:=omega) [gw,cC]
   refine bN [2] ?_
   exact b7
  ·have h:¬x.length<2:=by simp at h;omega
   have CR:x.length-1<x.length:=by omega
   have K5:=hd (lead x)
   have lT:=hna (lead x)
   simp only [R2,aeq,LY,K5,lT]at Q1 A1
   refine W.skip ?_
   refine W.sr ?_
   simp (disch:=omega) [gw,CR,e1,avF]
   refine bN [2,3,6] ?_
   refine aA [2,3,6] ?_
   refine iQ ?_
   refine aB hO ?_
   simp (disch:=omega) [gw,cM]
   refine bW Q1 ?_
   refine aB A1 ?_
   simp (disch:=omega) [gw,cC]
   (try (refine a9 (of_decide_eq_true (by kernel_rfl)) ?_));(try simp (maxSteps:=4000000) (disch:=omega) [gw,cC]);(repeat rw [if_pos (by kernel_rfl)]);(try simp (maxSteps:=4000000) (disch:=omega) [gw,cC])
   refine bN [2] ?_
   exact b7
end Go.Proofs.YtelhfbikiccfkaaGreat
namespace Pm
theorem afD:∀(n:Nat) (f:Nat→Nat),(∀k,k≤n→f k<n) → ∃i j,i<j∧j≤n∧f i=f j
 | 0,f,h=>absurd (h 0 (Nat.le_refl _)) (by omega)
 | n+1,f,h=>by
  by_cases hx:∃i,i≤n∧f i=f (n+1)
  ·obtain⟨i,hi,e⟩:=hx
   exact⟨i,n+1,by omega,Nat.le_refl _,e⟩
  ·have kQ:∀i,i≤n→f i≠f (n+1):=fun i hi e=>hx ⟨i,hi,e⟩
   have hm:=h (n+1) (Nat.le_refl _)
   obtain⟨i,j,hij,hj,e⟩:=afD n (fun k=>if f k=n then f (n+1)else f k) (fun k hk=>by
    have h1:=h k (by omega)
    have h2:=kQ k hk
    show(if f k=n then f (n+1)else f k)<n
    split<;>omega)
   refine⟨i,j,hij,by omega,?_⟩
   have h1:=kQ i (by omega)
   have h2:=kQ j hj
   have e':(if f i=n then f (n+1)else f i)=(if f j=n then f (n+1)else f j):=e
   split at e'<;>split at e'<;>omega
def GN(b:Nat):Nat→Nat→List Int
 | 0,_=>[]
 | n+1,k=>((k%b:Nat):Int)::GN b n (k/b)
theorem yV(b:Nat):∀n k,(GN b n k).length=n
 | 0,_=>rfl
 | n+1,k=>by rw [GN,List.length_cons,yV b n]
theorem MB{b:Nat}(hb:0<b):∀n k,∀c∈GN b n k,0≤c∧c<b
 | 0,_,c,h=>by cases h
 | n+1,k,c,h=>by
  rcases List.mem_cons.1 h with rfl | h
  ·have:=Nat.mod_lt k hb;omega
  ·exact MB hb n _ c h
theorem MC{b:Nat}(hb:0<b):∀n k m,k<b^n→m<b^n→GN b n k=GN b n m→k=m
 | 0,k,m,h1,h2,_=>by simp at h1 h2;omega
 | n+1,k,m,h1,h2,h=>by
  rw [GN,GN]at h
  injection h with h3 h4
  rw [Nat.pow_succ]at h1 h2
  have h5:=MC hb n (k/b) (m/b) ((Nat.div_lt_iff_lt_mul hb).2 h1) ((Nat.div_lt_iff_lt_mul hb).2 h2) h4
  have h6:=Nat.div_add_mod k b
  have h7:=Nat.div_add_mod m b
  rw [h5]at h6
  omega
def VQ(R:Nat):List Nat→Nat
 | []=>0
 | x::l=>x+R*VQ R l
theorem afE{R:Nat}:∀l:List Nat,(∀x∈l,x<R)→VQ R l<R^l.length
 | [],_=>by simp [VQ]
 | x::l,h=>by
  have h1:=afE l fun y hy=>h y (List.mem_cons_of_mem _ hy)
  have h2:=h x (List.mem_cons_self ..)
  rw [VQ,List.length_cons,Nat.pow_succ]
  have h3:R*(VQ R l+1)≤R*R^l.length:=Nat.mul_le_mul_left _ h1
  rw [Nat.mul_add]at h3
  rw [Nat.mul_comm (R^_)]
  omega
theorem ZE{R:Nat}:∀l m:List Nat,l.length=m.length→(∀x∈l,x<R)→(∀x∈m,x<R)→VQ R l=VQ R m→l=m
 | [],[],_,_,_,_=>rfl
 | [],_::_,h,_,_,_=>by simp at h
 | _::_,[],h,_,_,_=>by simp at h
 | x::l,y::m,hl,h1,h2,e=>by
  rw [VQ,VQ]at e
  have hx:=h1 x (List.mem_cons_self ..)
  have hy:=h2 y (List.mem_cons_self ..)
  have e1:(x+R*VQ R l)%R=(y+R*VQ R m)%R:=by rw [e]
  rw [Nat.add_mul_mod_self_left,Nat.add_mul_mod_self_left,Nat.mod_eq_of_lt hx,Nat.mod_eq_of_lt hy]at e1
  subst e1
  have e2:R*VQ R l=R*VQ R m:=by omega
  have e3:=Nat.eq_of_mul_eq_mul_left (by omega) e2
  rw [ZE l m (by simpa using hl) (fun z hz=>h1 z (List.mem_cons_of_mem _ hz)) (fun z hz=>h2 z (List.mem_cons_of_mem _ hz)) e3]
theorem tX{X Y:Nat}:∀(x y:List Int),(∀c∈x,c.natAbs≤X)→(∀i,(nth y i).natAbs≤Y) → ∀i,(nth (bH x y) i).natAbs≤x.length*(X*Y)
 | [],y,_,_,i=>by
  rw [show bH [] y = []from rfl,p7];simp
 | k::x,y,hx,hy,i=>by
  have hk:=hx k (List.mem_cons_self ..)
  have ih:=tX x y (fun c hc=>hx c (List.mem_cons_of_mem _ hc)) hy
  have h1:∀j,(nth y j*k).natAbs≤X*Y:=fun j=>by
   rw [Int.natAbs_mul,Nat.mul_comm]
   exact Nat.mul_le_mul hk (hy j)
  rw [List.length_cons,Nat.add_mul,Nat.one_mul]
  cases i with
  | zero =>
   rw [tE]
   have:=h1 0;omega
  | succ i =>
   rw [oB]
   have h2:=h1 (i+1)
   have h3:=ih i
   have h4:=Int.natAbs_add_le (nth y (i+1)*k) (nth (bH x y) i)
   omega
theorem VR{A:Nat}{y:List Int}(h:∀c∈y,c.natAbs≤A)(i:Nat):(nth y i).natAbs≤A:=by
 rcases Nat.lt_or_ge i y.length with h1 | h1
 ·exact h _ (bS h1)
 ·rw [iF h1];exact Nat.zero_le _
namespace ZX
theorem MD(x y:ZX)(i:Nat):nth (x-y).l i=nth x.l i-nth y.l i:=by
 have h:x=(x-y)+y:=by grind
 have h2:nth x.l i=nth ((x-y)+y).l i:=by rw [←h]
 rw [show((x-y)+y).l=fL (x-y).l y.l from rfl,xV]at h2
 omega
theorem ajs{a b v:ZX}(ha:a≠0)(hc:∀d,dv d a→dv d b→N d≤1)(h:dv a (v*b)):dv a v:=by
 obtain⟨g,hg⟩:=j3 _ a b (Nat.le_refl _)
 have h0:=hg.ne (.inl ha)
 have h1:=hc g hg.l hg.r
 have h2:=ZX.aI.1 h0
 obtain⟨k,hk,rfl⟩:=lC (show N g=1 by omega)
 obtain⟨c,zY,u',v',e⟩:=hg.uv
 rw [qG]at e
 refine dv.HD (Int.mul_ne_zero zY hk) ?_
 rw [e,show(u'*a+v'*b)*v=(u'*v)*a+v'*(v*b)by grind]
 exact((dv.refl a).mul_left _).add (h.mul_left _)
theorem ZF{l:List Int}{n:Nat}(h:l.length≤n):N (of l)≤n:=Nat.le_trans (cG l) h
theorem ME{x:ZX}{n:Nat}(hN:N x≤n+1)(h:∀i,i<n→nth x.l (i+1)=0):∃c:Int,x=K c:=by
 rcases Nat.lt_or_ge (N x) 2 with h1 | h1
 ·rcases Nat.eq_zero_or_pos (N x)with h2 | h2
  ·refine⟨0,?_⟩
   have:x=0:=Classical.byContradiction fun h0=>by have:=ZX.aI.1 h0;omega
   rw [this];rfl
  ·obtain⟨c,_,e⟩:=lC (show N x=1 by omega)
   exact⟨c,e⟩
 ·exfalso
  have h2:lead x.l≠0:=dK x.c (show 0<N x by omega)
  refine h2 ?_
  have h3:=h (N x-2) (by omega)
  rw [show N x-2+1=x.l.length-1 from by show N x-2+1=N x-1;omega]at h3
  exact h3
theorem MF(l:List Int)(i:Nat):nth (of l).l i=nth l i:=jI l i
theorem apD{a b:ZX}{s r l X:Nat}(ha:a≠0)(hb:b≠0)(hA:∀c∈a.l,c.natAbs≤2^s)(hB:∀c∈b.l,c.natAbs≤2^r)(hl:N a+N b≤2^l)(hc:∀d,dv d a→dv d b→N d≤1)(hX:(l+2)*(N a+N b)+s*N b+r*N a≤X) :
  ∃(u v:ZX) (c:Int),c≠0∧u*a+v*b=K c∧N u≤N b∧N v≤N a∧(∀c∈u.l,c.natAbs≤2^(X-s)) ∧ ∀c∈v.l,c.natAbs≤2^(X-r):=by
 have na:=ZX.aI.1 ha
 have nb:=ZX.aI.1 hb
 obtain⟨p,hp⟩:∃p,N a=p+1:=⟨N a-1,by omega⟩
 obtain⟨q,hq⟩:∃q,N b=q+1:=⟨N b-1,by omega⟩
 have hsX:s≤X:=by rw [hq,Nat.mul_add s]at hX;omega
 have hrX:r≤X:=by rw [hp,Nat.mul_add r]at hX;omega
 rcases Nat.lt_or_ge 2 (N a+N b)with hm | hm
 ·obtain⟨m,hmm⟩:∃m,p+q=m+1:=⟨p+q-1,by omega⟩
  obtain⟨U,hU⟩:∃U,U=2^(X-s):=⟨_,rfl⟩
  obtain⟨V,hV⟩:∃V,V=2^(X-r):=⟨_,rfl⟩
  have hUA:U*2^s=2^X:=by rw [hU,←Nat.pow_add];congr 1;omega
  have hVB:V*2^r=2^X:=by rw [hV,←Nat.pow_add];congr 1;omega
  rw [←hU,←hV]
  let P:=(U+1)^q
  have hPp:0<P:=Nat.pow_pos (Nat.succ_pos _)
  have hQp:0<(V+1)^p:=Nat.pow_pos (Nat.succ_pos _)
  let W:=(m+1)*2^X
  let uu:=fun k:Nat=>of (GN (U+1) q (k%P))
  let vv:=fun k:Nat=>of (GN (V+1) p (k/P))
  let L:=fun k:Nat=>uu k*a+vv k*b
  have aiC:∀B n k,∀c∈GN (B+1) n k,c.natAbs≤B:=fun B n k c hc=>by
   have:=MB (Nat.succ_pos B) _ _ c hc
   omega
  have hu:∀k,∀c∈(uu k).l,c.natAbs≤U:=fun k c hc=>aiC _ _ _ c (oA _ _ hc)
  have hv:∀k,∀c∈(vv k).l,c.natAbs≤V:=fun k c hc=>aiC _ _ _ c (oA _ _ hc)
  have hNu:∀k,N (uu k)≤q:=fun k=>ZF (by rw [yV];exact Nat.le_refl _)
  have hNv:∀k,N (vv k)≤p:=fun k=>ZF (by rw [yV];exact Nat.le_refl _)
  have hW:∀k i,(nth (L k).l i).natAbs≤W:=fun k i=>by
   have e:(L k).l=fL (bH (uu k).l a.l) (bH (vv k).l b.l):=rfl
   rw [e,xV]
   have h1:=tX (uu k).l a.l (hu k) (VR hA) i
   have h2:=tX (vv k).l b.l (hv k) (VR hB) i
   rw [hUA]at h1
   rw [hVB]at h2
   have h4:=Int.natAbs_add_le (nth (bH (uu k).l a.l) i) (nth (bH (vv k).l b.l) i)
   have h5:(uu k).l.length*2^X+(vv k).l.length*2^X≤W:=by
    rw [←Nat.add_mul]
    refine Nat.mul_le_mul_right _ ?_
    have h4:N (uu k)≤q:=hNu k
    have h5:N (vv k)≤p:=hNv k
    show N (uu k)+N (vv k)≤m+1
    omega
   omega
  let im:=fun k:Nat=>(List.range m).map fun i=>(nth (L k).l (i+1)+W).toNat
  have him:∀k,∀x∈im k,x<2*W+1:=fun k x hx=>by
   simp only [im,List.mem_map]at hx
   obtain⟨i,_,rfl⟩:=hx
   have:=hW k (i+1)
   omega
  have aAT:(2*W+1)^m<P*(V+1)^p:=by
   have h1:2*W+1≤2^(X+l+2):=by
    have h2:(m+1)*2^X≤2^l*2^X:=Nat.mul_le_mul_right _ (by omega)
    have h3:2^(X+l+2)=2^l*2^X*4:=by rw [Nat.pow_add,Nat.pow_add,Nat.mul_comm (2^X)]
    have h4:1≤2^l*2^X:=Nat.mul_pos (Nat.two_pow_pos _) (Nat.two_pow_pos _)
    simp only [W]
    omega
   have h2:=Nat.pow_le_pow_left h1 m
   rw [←Nat.pow_mul]at h2
   have h3:2^((X-s)*q+(X-r)*p)≤P*(V+1)^p:=by
    rw [Nat.pow_add,Nat.pow_mul,Nat.pow_mul,←hU,←hV]
    exact Nat.mul_le_mul (Nat.pow_le_pow_left (Nat.le_succ _) _) (Nat.pow_le_pow_left (Nat.le_succ _) _)
   refine Nat.lt_of_le_of_lt h2 (Nat.lt_of_lt_of_le (Nat.pow_lt_pow_right (by decide) ?_) h3)
   rw [hp,hq]at hX
   rw [Nat.sub_mul,Nat.sub_mul]
   have e1:X*q+X*p=X*m+X:=by rw [←Nat.mul_add,show q+p=m+1 by omega,Nat.mul_add,Nat.mul_one]
   have e2:s*q≤X*q:=Nat.mul_le_mul_right _ hsX
   have e3:r*p≤X*p:=Nat.mul_le_mul_right _ hrX
   have e4:(X+l+2)*m=X*m+(l+2)*m:=by rw [Nat.add_assoc,Nat.add_mul]
   have e5:(l+2)*(p+1+(q+1))=(l+2)*m+(l+2)*3:=by rw [←Nat.mul_add];congr 1;omega
   have e6:s*(q+1)=s*q+s:=Nat.mul_succ _ _
   have e7:r*(p+1)=r*p+r:=Nat.mul_succ _ _
   omega
  obtain⟨n,hn⟩:∃n,P*(V+1)^p=n+1:=⟨P*(V+1)^p-1,by have:=Nat.mul_pos hPp hQp;omega⟩
  obtain⟨i,j,hij,hj,e⟩:=afD n (fun k=>VQ (2*W+1) (im k)) (fun k hk=>by
   have h1:=afE (im k) (him k)
   rw [show(im k).length=m by simp [im]]at h1
   show VQ (2*W+1) (im k)<n
   omega)
  have e2:=ZE (im i) (im j) (by simp [im]) (him i) (him j) e
  have e3:∀s,s<m→nth (L i).l (s+1)=nth (L j).l (s+1):=fun s hs=>by
   have h1:(im i)[s]? = (im j)[s]? := by rw [e2]
   simp only [im,List.getElem?_map,List.getElem?_range hs,Option.map_some]at h1
   injection h1 with h1
   have:=hW i (s+1)
   have:=hW j (s+1)
   omega
  have hNL:∀x y:ZX,N x≤q→N y≤p→N (x*a+y*b)≤m+1:=fun x y hx hy=>by
   have h1:N (x*a+y*b)≤max (N (x*a)) (N (y*b)):=EM _ _
   have h2:N (x*a)≤N x+N a-1:=tD (x:=x.l) (y:=a.l) na
   have h3:N (y*b)≤N y+N b-1:=tD (x:=y.l) (y:=b.l) nb
   omega
  have Z4:N (uu i-uu j)≤q:=by
   have h1:N (uu i-uu j)≤max (N (uu i)) (N (uu j)):=xT _ _
   have:=hNu i;have:=hNu j;omega
  have hv':N (vv i-vv j)≤p:=by
   have h1:N (vv i-vv j)≤max (N (vv i)) (N (vv j)):=xT _ _
   have:=hNv i;have:=hNv j;omega
  have eL:(uu i-uu j)*a+(vv i-vv j)*b=L i-L j:=by simp only [L];grind
  obtain⟨c,hcc⟩:=ME (x:=(uu i-uu j)*a+(vv i-vv j)*b) (n:=m) (hNL _ _ Z4 hv') (fun s hs=>by
   rw [eL,MD,e3 s hs];omega)
  have pF:∀(B n k k':Nat),∀c∈(of (GN (B+1) n k)-of (GN (B+1) n k')).l,c.natAbs≤B:=fun B n k k' c hc=>by
   obtain⟨s,hs,rfl⟩:=List.getElem_of_mem hc
   rw [←dE hs,MD,MF,MF]
   have h3:∀k,0≤nth (GN (B+1) n k) s∧nth (GN (B+1) n k) s<((B+1:Nat):Int):=fun k=>by
    rcases Nat.lt_or_ge s (GN (B+1) n k).length with h4 | h4
    ·exact MB (Nat.succ_pos B) _ _ _ (bS h4)
    ·rw [iF h4];exact⟨by decide,by show(0:Int)<_;omega⟩
   have:=h3 k
   have:=h3 k'
   omega
  refine⟨uu i-uu j,vv i-vv j,c,fun h0=>?_,hcc,by omega,by omega,pF _ _ _ _,pF _ _ _ _⟩
  rw [h0,show K 0=(0:ZX)from rfl]at hcc
  have hvz:vv i-vv j=0:=Classical.byContradiction fun kQ=>by
   have h1:dv a (vv i-vv j):=ajs ha hc (b:=b) ⟨1,by decide, -(uu i-uu j),by
    show(1:ZX)*_=_
    have:(vv i-vv j)*b = -((uu i-uu j)*a):=by grind
    rw [this];grind⟩
   have:=h1.mD kQ
   omega
  have huz:uu i-uu j=0:=Classical.byContradiction fun kQ=>by
   have h1:(uu i-uu j)*a=0:=by rw [hvz]at hcc;grind
   exact tU kQ ha h1
  have hd:∀(B n k k':Nat),of (GN (B+1) n k)-of (GN (B+1) n k')=0→GN (B+1) n k=GN (B+1) n k':=fun B n k k' h0=>by
   refine List.ext_getElem (by rw [yV,yV]) fun s hs zC=>?_
   have h3:=MD (of (GN (B+1) n k)) (of (GN (B+1) n k')) s
   rw [h0,show nth (0:ZX).l s=0 from p7 s,MF,MF]at h3
   rw [←dE hs,←dE zC]
   omega
  have lt2:∀k,k≤n→k/P<(V+1)^p:=fun k hk=>(Nat.div_lt_iff_lt_mul hPp).2 (by rw [Nat.mul_comm];omega)
  have d1:i%P=j%P:=MC (Nat.succ_pos U) q _ _ (Nat.mod_lt i hPp) (Nat.mod_lt j hPp) (hd _ _ _ _ huz)
  have d2:i/P=j/P:=MC (Nat.succ_pos V) p _ _ (lt2 i (by omega)) (lt2 j hj) (hd _ _ _ _ hvz)
  have h6:=Nat.div_add_mod i P
  have h7:=Nat.div_add_mod j P
  rw [d1,d2]at h6
  omega
 ·obtain⟨c,zY,rfl⟩:=lC (show N a=1 by omega)
  refine⟨1,0,c,zY,by grind,by rw [r9];omega,by rw [aei];omega,fun x hx=>?_,fun x hx=>by cases hx⟩
  have h1:(1:ZX).l = [1]:=rfl
  rw [h1]at hx
  simp at hx;subst hx;exact Nat.two_pow_pos _
end ZX
end Pm
