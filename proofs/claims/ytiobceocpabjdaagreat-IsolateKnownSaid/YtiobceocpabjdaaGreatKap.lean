import Derived.Test.YtiobceocpabjdaaGreatKan
import Derived.Test.YtiobceocpabjdaaGreatKao
set_option linter.unusedSimpArgs false
set_option linter.unusedVariables false
namespace Pm
open Go Go.RowKit
def TR(E:Env)(o:Oper)(K:PS→Prop)(σ:PS):Prop:=
 match o.op with
 | .build t ⟨[(0,x)]⟩=>E.ty t = .struct [(0,1,false)] (E.ty t).zero∧(E.ty t).zero.length=1∧bS (aO σ.f x)=some [aO σ.f x]∧gR σ.rows (aO σ.f x)∧K (σ.put o.dst (.ag [aO σ.f x]))
 | _=>False
section
variable {E:Env} {w0:World} {S0:dF} {m:Nat} {G:Gs}
theorem M8{o:Oper}{a:Act}{w:World}{σ:PS}{K:PS→Prop}(h:TR E o K σ)(hR:Rel w0 S0 m G σ a w)(hd:∀t,o.dst=some t→t<m)
  {K':Act→World→Prop} {Q:Exit→Act→World→Prop} (hK:∀σ' a' w',K σ'→Rel w0 S0 m G σ' a' w'→K' a' w'):o.wp E.P a w K' Q:=by
 obtain⟨⟨c,rfl,hr,eY,hI,hf,hG⟩,hn,eQ⟩:=hR
 have hρ:=kC hf
 obtain⟨dst,op,type,pos,after,guard⟩:=o
 simp only at hd
 unfold TR at h
 simp only at h
 split at h
 ·rename_i t x
  obtain⟨hE,DH,hc,ho,hk⟩:=h
  rw [←hr]at ho
  obtain⟨g1,g2⟩:=kN (hρ x) hc (fun q hq=>by simp at hq;subst hq;exact ho)
  have ht:=E.ok t
  rw [hE]at ht
  obtain⟨⟨fields,hu,ha⟩,hz⟩:=ht
  obtain⟨i,zv,hi,hzv,_,KN,_⟩:=hz.ok
  have AF:zv.cells.size=1:=by
   have:(zv.cells.toList.map g9).length=1:=by rw [KN];exact DH
   simpa using this
  have F6:(a.eval x).cells.size=1:=by have:=g1.length;simpa using this.symm
  have BK:=mX 0 (a.eval x).cells.toList 0 zv.cells (by simp;omega)
  have hl:((a.eval x).cells.toList.zipIdx 0).foldl (fun cs (x:Value × Nat)=>cs.setIfInBounds (0+x.2) x.1) zv.cells=(a.eval x).cells:=by
   apply Array.toList_inj.1
   rw [BK]
   have h1:(a.eval x).cells.toList.length=1:=by simpa using F6
   have h2:zv.cells.toList.length=1:=by simpa using AF
   rw [h1]
   simp [List.drop_of_length_le,h2]
  have iC:(execOp a.eval { dst:=dst,op:=.build t ⟨[(0,x)]⟩,type:=type,pos:=pos,after:=after,guard:=guard }).run E.P c.w = .ok (.value (.agg (a.eval x).cells)) c.w:=by
   have afx:Instr.fill (fun x=>(([(0,1,false)]:List (Nat × Nat × Bool)).toArray.map fun x=>(x.1,x.2.1))[x]?) zv.cells [(0,a.eval x)]=some (a.eval x).cells:=by
    have hpl:(([(0,1,false)]:List (Nat × Nat × Bool)).toArray.map fun x=>(x.1,x.2.1))[0]? = some (0,1):=by simp
    simp only [Instr.fill,hpl]
    rw [if_neg (by simp [F6,AF])]
    have hz3:(a.eval x).cells.toList.zipIdx=(a.eval x).cells.zipIdx.toList:=by simp
    have h5:(a.eval x).cells.zipIdx.foldl (fun cs (x:Value × Nat)=>cs.setIfInBounds (0+x.2) x.1) zv.cells=(a.eval x).cells:=by
     rw [←Array.foldl_toList,←hz3];exact hl
    simp only [h5]
   simp only [execOp,Instr.build,zeroValue,typeInfo,program,Sem.run_bind,Sem.run,hi,hzv,Sem.run_pure,Result.andThen_ok,run_underlying hu,run_places ha]
   simp at afx
   simp [afx]
  unfold Oper.wp
  rw [iC]
  refine hK _ _ _ hk ?_
  exact m6 hf hG hn eQ (qE.refl c) hI (show aH c (.ag [aO σ.f x]) (.agg (a.eval x).cells)from⟨(a.eval x).cells.toList,by simp,g1⟩) hd rfl (by simp [PS.put,hr]) eY
 ·exact h.elim
end
theorem W.ai3{E:Env}{n:Nat}{tl:Nat→Nat}{Q:PX→PS→Prop}{σ:PS}{id:Nat}{ops:List Oper}{y:Code}(i:Nat){o o2:Oper}(ho:ops=ops.take i++o::o2::ops.drop (i+2))(hg:o.guard=none)(sI:o2.guard=none)
  (h:∀K:PS→Prop,(∀σ,W E n tl y Q σ→K σ)→go (aI E ops (ops.take i) (fun σ=>A9 E o (fun σ=>TR E o2 (aI E ops (ops.drop (i+2)) K) σ) σ) σ)):W E n tl (.seq (.region id ops.toArray false) y) Q σ:=by
 refine W.seq ?_
 intro fG w0 S0 G a w Q' hR hQ
 simp only [eA,oL,Bool.and_eq_true]at fG
 have hd:∀o∈ops,∀t,o.dst=some t→t<n:=fun o ho t ht=>by
  have:=Array.all_eq_true_iff_forall_mem.1 fG.1 o (by simpa using ho)
  simpa [ht]using this
 refine wp_region_list ?_
 show wpList E.P ops.toArray Q' ops a w
 have h1:=h (fun σ=>W E n tl y Q σ) fun _ h=>h
 have mG:o∈ops:=by rw [ho];simp
 have apk:o2∈ops:=by rw [ho];simp
 have:=lR (E:=E) (w0:=w0) (S0:=S0) (m:=n) (G:=G) (ops:=ops.toArray) (Q:=Q') (l2:=o::o2::ops.drop (i+2)) (K:=fun σ=>A9 E o (fun σ=>TR E o2 (aI E ops (ops.drop (i+2)) (fun σ=>W E n tl y Q σ)) σ) σ) (fun σ' a' w' hl jZ=>by
  unfold wpList
  rw [if_pos (by simp [Region.wanted,hg])]
  refine .inl (rU hl jZ (hd o mG) fun σ2 a2 w2 hk hR2=>?_)
  unfold wpList
  rw [if_pos (by simp [Region.wanted,sI])]
  refine .inl (M8 hk hR2 (hd o2 apk) fun σ3 a3 w3 hk3 hR3=>?_)
  exact fV (E:=E) (ops:=ops.toArray) (fun σ4 a4 w4 hk4 hR4=>hQ .normal σ4 a4 w4 hk4 hR4) _ σ3 a3 w3 (fun o ho=>hd o (List.mem_of_mem_drop ho)) hk3 hR3) (ops.take i) σ a w (fun o ho=>hd o (List.mem_of_mem_take ho)) h1 hR
 rwa [←ho]at this
@[simp] theorem arj{E:Env}{K:PS→Prop}{f:Nat→PV}{rows:Rows}{clk:Nat}{d:Option Tmp}{ty:TypeId}{pos:String}{af:Array Edge}{t:TypeId}{x:Operand} :
  TR E ⟨d, .build t ⟨[(0,x)]⟩,ty,pos,af,none⟩ K ⟨f,rows,clk⟩=aE (E.ty t = .struct [(0,1,false)] (E.ty t).zero∧(E.ty t).zero.length=1) (eO (bS (aO f x)) fun l=>aE (l = [aO f x]∧fW rows [aO f x]) (K ⟨put f d (.ag [aO f x]),rows,clk⟩)):=by
 simp only [TR,aE,eO,fW,PS.put]
 apply propext
 constructor
 ·rintro⟨h1,h2,h3,h4,h5⟩;exact⟨⟨h1,h2⟩,_,h3,⟨rfl,by simpa using h4⟩,h5⟩
 ·rintro⟨⟨h1,h2⟩,l,h3,⟨rfl,h4⟩,h5⟩;exact⟨h1,h2,h3,by simpa using h4,h5⟩
end Pm
namespace Go.Proofs.YtiobceocpabjdaaGreat
open Go Pm
theorem BZ.z{h n:Nat}{a:ZX}(b:BZ h n a)(hh:h<1099511627776):∀c∈a.l,Z c:=fun c hc=>Nat.lt_of_le_of_lt (b.sz c hc) hh
theorem adk{h n:Nat}{a:ZX}(b:BZ h n a)(hh:h<1099511627776)(hn:n<1099511627776):aL env.P 100 [PI a.l] (Po a.l):=acW a.l (b.z hh) (Nat.lt_of_le_of_lt b.len hn)
theorem apl{a b:ZX}(ha:a≠0)(hb:Nf b)(h:∀p,ZX.oA p→ZX.mu p b=min (ZX.mu p a) 1):sq a=b:=by
 have nA:=lN ha
 have e:sq a=sz' (nf a):=by
  unfold sq
  split
  ·rename_i h2
   have h3:nf a=1:=nA.N1 (by rw [wP];exact h2)
   rw [h3]
   show 1=wz 1 0
   rw [wz]
   show 1=qz 1 (gd 1)
   rw [ZE,Nf.one.self]
  ·rfl
 rw [e]
 exact Nf.zK (ZI nA) hb fun p hp=>by rw [ZJ nA hp,ZB hp ha,h p hp]
theorem Z1{a:ZX}{n:Nat}(hn:a.l.length≤n)(hc:∀c∈a.l,c.natAbs<8):BZ 3 n a:=⟨hn,fun c h=>dN (by decide) (by have:=hc c h;show _<8;exact this)⟩
end Go.Proofs.YtiobceocpabjdaaGreat
namespace Go.Proofs.YtiobceocpabjdaaGreat
open Go Pm
open ZX hiding N W
theorem P8{a:ZX}(h:2≤ZX.N a):nth (b6 a).l (ZX.N a-2)=lead a.l*((ZX.N a-1:Nat):Int):=by
 have h1:a.l.length=ZX.N a:=rfl
 have h2:nth (b6 a).l (ZX.N a-2)=nth a.l (ZX.N a-1)*((ZX.N a-1:Nat):Int):=by
  show nth (aM (uO a.l)) _=_
  rw [gS,uO,bZ (by simp;omega)]
  simp only [List.getElem_map,List.getElem_range]
  rw [show ZX.N a-2+1=ZX.N a-1 by omega]
 rw [h2,lead,h1]
theorem Z2{a:ZX}(h:2≤ZX.N a):ZX.N (b6 a)=ZX.N a-1:=by
 have h1:=n4 a
 have h2:=P8 h
 have hl:=cM a.c (show 0<a.l.length from by have:a.l.length=ZX.N a:=rfl;omega)
 have h3:nth (b6 a).l (ZX.N a-2)≠0:=by rw [h2];exact Int.mul_ne_zero hl (by omega)
 rcases Nat.lt_or_ge (ZX.N a-2) (b6 a).l.length with h4 | h4
 ·have:ZX.N (b6 a)=(b6 a).l.length:=rfl
  omega
 ·exact absurd (fY h4) h3
theorem Z3{a:ZX}(h:2≤ZX.N a):lead (b6 a).l=lead a.l*((ZX.N a-1:Nat):Int):=by
 rw [←P8 h,lead,show(b6 a).l.length=ZX.N (b6 a)from rfl,Z2 h,show ZX.N a-1-1=ZX.N a-2 by omega]
theorem TS{a:ZX}(h:ZX.N a≤1):b6 a=0:=by
 refine Classical.byContradiction fun h0=>?_
 have h1:=ZX.aF.1 h0
 have:=n4 a
 omega
theorem adl{f:ZX}(hf:Nf f):o7 (b6 f).l=(oB (b6 f)).l:=by
 have h:¬lead (b6 f).l<0:=by
  rcases Nat.lt_or_ge (ZX.N f) 2 with h2 | h2
  ·rw [TS (by omega)];decide
  ·rw [Z3 h2]
   have:=Int.mul_nonneg (Int.le_of_lt hf.l) (show (0:Int)≤((ZX.N f-1:Nat):Int)by omega)
   omega
 show _=iX (b6 f).l
 rw [IM,if_neg h]
theorem qC{α:Type}{g:α→List PV}{l:List α}{s n:Nat}{f:ZX}(hS:aL env.P 70 [aQ g l] (Po f.l))(h:Ch s n f)(hf:Nf f):aL env.P 69 [aQ g l] (.dX [CH (bE f), .int .i64 0]):=by
 have hn:=h.hn
 have hp:=h.pot
 have hs:=hp.le
 have bd:BZ (s+5) n (b6 f):=h.bz.b6 (by omega)
 have d1:=rS h.bz (by omega) (by omega)
 have d2:=qX ((b6 f).l.map qI) (bd.A8 (by omega) (by omega)) (s:=s+5) (n:=n) (by rw [bT];exact F0 bd) (by omega) (by omega)
 rw [vX,←gT,adl hf]at d2
 have b2:BZ (s+5) n (oB (b6 f)):=jC bd
 have b1:BZ (s+5) n f:=h.bz.mono (by omega) (Nat.le_refl _)
 have O5:ZX.N (oB (b6 f))≤ZX.N f:=Nat.le_trans (kW _) (Nat.le_trans (n4 f) (by omega))
 have hc:bE f=f::rV (ZX.N f) f (oB (b6 f)):=rfl
 rw [zT O5 (Nat.le_refl _)]at hc
 have hf0:f.l.length≠0:=by have:=ZX.aF.1 hf.ne;exact Nat.pos_iff_ne_zero.1 this
 have hf1:¬f.l = []:=fun h0=>hf0 (by rw [h0];rfl)
 generalize hC:bE f=C at *
 generalize oB (b6 f)=g0 at *
 generalize jQ (b6 f).l=pc at *
 generalize (b6 f).l=dl at *
 refine cH [(0,aQ g l)] Tryz.func69 ?_
 refine aA [0] ?_
 refine a7 [4] hS ?_
 refine aR [4,14] ?_
 refine bP ?_ ?_<;>intro h
 ·simp at h;exact absurd h hf1
 refine W.skip ?_
 refine W.ai3 1 rfl rfl rfl (fun K hK=>?_)
 simp (disch:=omega) [gw]
 refine W.lw [4,5] hK ?_;clear hK K;simp
 refine jM ?_
 refine cX d1 ?_
 refine cV [4,5,7] d2 ?_
 refine W.seq ?_
 refine W.block ?_
 refine W.bC (fun k σ=>∃(L:List ZX) (x y:ZX) (i ver v18 e18 s:Nat) (rows:Pm.Rows) (clk:Nat),σ=⟨fa [(4,Po x.l),(5, .ptr 18 v18 0 0),(7,Po y.l)],rows,clk⟩∧rows 16=some ⟨ver,24,1,emap zp L⟩∧rows 18=some ⟨v18,e18,1,[[.own 16 ver 0 (i+1)]]⟩∧L.length=i+1 ∧
  L++rV k x y=C∧k=ZX.N y∧BZ s n x∧BZ s n y∧wQ 4500000000 n s x y∧i+ZX.N y≤20) (ZX.N g0) ?_ ?_
 ·exact⟨_, .refl,[f],f,g0,0,_,_,_,s+5,_,_,rfl,by simp [emap];(first | exact rfl | exact⟨rfl,rfl⟩),by simp;(first | exact rfl | exact⟨rfl,rfl⟩ | exact⟨rfl,rfl,rfl⟩),rfl,hc.symm,rfl,b1,b2,hp,by have:=b2.N;omega⟩
 rintro k _ ⟨L,x,y,i,ver,v18,e18,s,rows,clk,rfl,Z4,ai4,hL,UH,rfl,bx,p7,hp,hiN⟩
 have hs:=hp.le
 have hlx:=bx.len
 have hly:=p7.len
 have hLl:(emap zp L).length=i+1:=by simp [emap,hL]
 refine aR [4,5,7,27] ?_
 refine bP ?_ ?_<;>intro h
 ·have hy:y≠0:=ZX.aF.2 (by show 0<y.l.length;simp at h;omega)
  have hR:=IK (x.l.map qI) (y.l.map qI) (bx.A8 (by omega) (by omega)) (p7.A8 (by omega) (by omega)) (s:=s) (s':=s) (N:=n) (by rw [bT];exact F0 bx) (by rw [bT];exact F0 p7) (by
   have:n*(s+n+1)≤20*4500000000:=Nat.mul_le_mul hn hs
   omega)
  rw [vX,vX,if_neg (uP hy),←gT,←gT]at hR
  have br:=P3 bx p7 hy
  have aft:(ZX.N x+1-ZX.N y)*(s+n+1)≤22*4500000000:=Nat.mul_le_mul (by have:ZX.N x=x.l.length:=rfl;omega) (by omega)
  have hrz:II x.l y.l=(oB (rz x y)).l:=by
   obtain⟨R7,hN,_⟩:=p9 (a:=x) hy
   obtain⟨m,q,hm,e⟩:=ZS y.c (ZX.aF.1 hy) (x.l.length+1) x.l x.c (by omega)
   rw [←R7]at e
   exact ZT x.c y.c (ZX.aF.1 hy) (rz x y).c hN hm e
  rw [hrz]at hR
  have hNg:=CM (x:=(oB (rz x y)).l) (PB.of (F0 (jC br)) (by omega) (by omega))
  have e3:fK (oB (rz x y)).l=(nx x y).l:=rfl
  rw [e3]at hNg
  have O5:=TH (a:=x) hy
  have hp2:=hp.step O5
  have bn:=P4 bx p7 hy
  have hch:L ++ [y]++rV (ZX.N (nx x y)) y (nx x y)=C:=by
   rw [←UH]
   obtain⟨j,hj⟩:∃j,ZX.N y=j+1:=⟨ZX.N y-1,by have:=ZX.aF.1 hy;have:ZX.N y=y.l.length:=rfl;omega⟩
   rw [hj,rV,if_neg (by omega),zT (k:=j) (j:=ZX.N (nx x y)) (by omega) (Nat.le_refl _)]
   simp
  generalize (oB (rz x y)).l=pl at *
  generalize hnx:nx x y=nn at *
  refine W.skip ?_
  refine W.block ?_
  refine W.sr ?_
  simp (disch:=omega) [gw,Z4,ai4,hLl]
  refine bM [4,5,7] ?_
  refine a7 [5,7,8] hR ?_
  refine W.cG (fun K hK=>?_)
  simp (disch:=omega) [gw]
  refine cX hNg ?_
  refine hK _ ⟨ZX.N nn,_,aD _ [4,5,7],O5,L ++ [y],y,nn,i+1,_,v18,e18,_,_,_,rfl,by simp;first | exact rfl | skip,by simp;first | exact rfl | skip,by simp [hL],hch,rfl,p7.mono (by omega) (Nat.le_refl _),bn,hp2,by omega⟩
 ·have hy:y=0:=by
   refine Classical.byContradiction fun h0=>?_
   have h1:=ZX.aF.1 h0
   have h2:ZX.N y=y.l.length:=rfl
   simp at h;rw [h2,h]at h1;simp at h1
  subst hy
  rw [jD,List.append_nil]at UH
  subst UH
  have wT:List.take (i+1) L=L:=List.take_of_length_le (by omega)
  refine fC ?_
  refine W.D9 16 (by rw [Z4];simp) (fun K hK=>?_)
  simp [Z4]
  refine hK _ ?_
  have apn:A6 rows 16 18=some ⟨v18,e18,1,[[aQ zp L]]⟩:=by
   simp [ai4,Z4,hLl,wT]
  clear Z4 ai4
  generalize A6 rows 16=s8 at *
  refine aA [2,3] ?_
  refine W.ret ?_
  simp [go,apn]
theorem Z5{n:Nat}(hn:n≤20):∀(j s:Nat) (x g:ZX),BZ s n x→BZ s n g→wQ 4500000000 n s x g → ∀p∈rV j x g,BZ 4500000000 n p
 | 0,_,_,_,_,_,_,p,hp=>by cases hp
 | j+1,s,x,g,bx,bg,hP,p,hp=>by
  have hs:=hP.le
  rw [rV]at hp
  split at hp
  ·cases hp
  ·rename_i h0
   have h0':g≠0:=ZX.aF.2 (Nat.pos_of_ne_zero h0)
   rcases List.mem_cons.1 hp with rfl | hp
   ·exact bg.mono (by omega) (Nat.le_refl _)
   ·exact Z5 hn j _ g (nx x g) (bg.mono (by omega) (Nat.le_refl _)) (P4 bx bg h0') (hP.step (TH h0')) p hp
theorem P9:∀(j:Nat) (x g:ZX),(rV j x g).length≤j
 | 0,_,_=>Nat.le_refl _
 | j+1,x,g=>by
  rw [rV]
  split
  ·simp
  ·simp only [List.length_cons];have:=P9 j g (nx x g);omega
theorem Ch.all{s n:Nat}{f:ZX}(h:Ch s n f):(∀p∈bE f,BZ 4500000000 n p)∧(bE f).length≤21:=by
 have hp:=h.pot
 have hs:=hp.le
 have hn:=h.hn
 refine⟨fun p hq=>?_,?_⟩
 ·rcases List.mem_cons.1 hq with rfl | hq
  ·exact h.bz.mono (by omega) (Nat.le_refl _)
  ·exact Z5 hn _ _ _ _ (h.bz.mono (by omega) (Nat.le_refl _)) (jC (h.bz.b6 (by omega))) hp p hq
 ·have:=P9 (ZX.N f) f (oB (b6 f))
  have h2:=h.bz.N
  show(f::rV (ZX.N f) f (oB (b6 f))).length≤21
  simp only [List.length_cons];omega
theorem QB{a u v:ZX}{c:Int}(na:Nf a)(hc:c≠0)(h:u*a+v*b6 a=K c):sq a=a:=apl na.ne na fun p hp=>by
 have hm:mu p a≤1:=by
  rcases Nat.lt_or_ge (mu p a) 2 with h1 | h1
  ·omega
  ·exfalso
   obtain⟨m,hmm⟩:∃m,mu p a=m+1:=⟨mu p a-1,by omega⟩
   obtain⟨_,h2⟩:=zH hp na.ne hmm
   have d1:dv p a:=by have:=(mR hp na.ne).1 (show 1≤mu p a by omega);rwa [show p^1=p by rw [pow_succ',gJ];grind]at this
   have hd:b6 a≠0:=fun h0=>by rw [h0]at h2;have:mu p (0:ZX)=m:=h2;have h9:=(zH hp na.ne hmm).1;exact h9 h0
   have d2:dv p (b6 a):=by have:=(mR hp hd).1 (show 1≤mu p (b6 a)by omega);rwa [show p^1=p by rw [pow_succ',gJ];grind]at this
   have d3:dv p (K c):=by rw [←h];exact(d1.mul_left u).add (d2.mul_left v)
   have h3:=d3.pB (tI hc)
   have h4:=hp.deg
   rw [N_K hc]at h3
   omega
 omega
theorem fM(q:Rat):cY q.num q.den=q:=by
 rw [cY,if_neg (by have:=q.den_nz;omega)]
 exact Rat.num_divInt_den q
theorem ai5(n d:Int):(wS n d).num.natAbs≤30∧((wS n d).den:Int).natAbs≤6:=by
 have h1:=Int.emod_nonneg n (show (61:Int)≠0 by decide)
 have h2:=Int.emod_lt_of_pos n (show (0:Int)<61 by decide)
 have h3:=Int.emod_nonneg d (show (6:Int)≠0 by decide)
 have h4:=Int.emod_lt_of_pos d (show (0:Int)<6 by decide)
 unfold wS
 rw [nK _ _ (by omega),nM _ _ (by omega)]
 rw [if_neg (by omega),if_neg (by omega)]
 refine⟨Nat.le_trans (Int.natAbs_ediv_le_natAbs _ _) (by omega),Nat.le_trans (Int.natAbs_ediv_le_natAbs _ _) (by omega)⟩
structure SQ(u:Nat)(q:Rat):Prop where
 n2:sz 2 q.num≤u
 d2:sz 2 (q.den:Int)≤u
 hu:1≤u
theorem SQ.nL{u:Nat}{q:Rat}(h:SQ u q):sz LL q.num≤u:=Nat.le_trans (zN _) h.n2
theorem SQ.dL{u:Nat}{q:Rat}(h:SQ u q):sz LL (q.den:Int)≤u:=Nat.le_trans (zN _) h.d2
theorem FA(n d:Int):SQ 5 (wS n d):=by
 obtain⟨h1,h2⟩:=ai5 n d
 exact⟨mU (by omega),mU (by omega),by decide⟩
section
variable {c:List ZX} {n u:Nat} {q:Rat} (hb:∀p∈c,BZ 4500000000 n p) (hn:n≤20) (hl:c.length≤21) (hq:SQ u q) (hu:u≤1000000000)
include hb hn hl hq hu
theorem Z6:aL env.P 151 [aQ zq c,R2 q.num q.den] (.int .i64 (vr (j6 c q.num q.den))):=JE (by omega) fun p hp=>by
 have hmul:n*(u+1)≤20*(u+1):=Nat.mul_le_mul_right _ hn
 exact uR (hb p hp) hq.n2 hq.d2 hq.hu (by omega) (by show _<137438953472;omega)
theorem FB:aL env.P 168 [CH c,T2 q.num q.den] (.int .i64 (vr (j6 c q.num q.den))):=M5 (by omega) fun p hp=>by
 have hmul:n*(u+1)≤20*(u+1):=Nat.mul_le_mul_right _ hn
 exact C3 (F0 (hb p hp)) p.c hq.nL hq.dL hq.hu (by omega) (by omega) (by omega) (fM q) ⟨hq.nL,hq.dL⟩
end
theorem pbs{c:List ZX}{n:Nat}(hb:∀p∈c,BZ 4500000000 n p)(hn:n≤20):∀p∈c,PB p.l:=fun p hp=>(hb p hp).pb (by decide) (by omega)
def a8:ZX:=ZX.of [-2,0,1]
theorem apo:sq a8=a8:=by
 have nA:Nf a8:=⟨ZX.aF.2 (by decide),by decide,by decide⟩
 refine QB (u:=K (-2)) (v:=ZX.of [0,1]) (c:=4) nA (by decide) (ZX.ext fun t=>?_)
 have hd:b6 a8=ZX.of [0,2]:=rfl
 rw [hd,ZX.j3,ZX.dD,ZX.dD,ZX.sE,ZX.sE,a8,ZX.MR,ZX.MR,ZX.MR]
 simp only [V];grind
theorem Z7:vr (P7 (bE a8))=2∧vr (BD (bE a8))=0∧vr (j6 (bE a8) 0 1)=1∧vr (j6 (bE a8) 2 1)=0:=⟨by kernel_rfl,by kernel_rfl,by kernel_rfl,by kernel_rfl⟩
structure MK(a:ZX)(c:List ZX):Prop where
 to:aL env.P 100 [PI a.l] (Po a.l)
 new:aL env.P 69 [Po a.l] (.dX [CH c, .int .i64 0])
 chain:aL env.P 81 [PI a.l] (aQ zq c)
 bd:∀p∈c,BZ 4500000000 20 p
 len:c.length≤21
theorem MK.of{s n:Nat}{a:ZX}(h:tY s n a)(h0:a≠0)(JA:1≤n)(h1:1≤s):MK a (bE (sq a)):=by
 have hC:=h.ch h0 JA
 obtain⟨hb,hl⟩:=hC.all
 have hqb:=h.vY
 have hs:s<1099511627776:=by unfold qb at hqb;omega
 have hn:=h.hn
 exact⟨adk h.bz hs (by omega),qC (rT h) hC (JI h0).1,M7 h h0 JA h1,fun p hp=>(hb p hp).mono (Nat.le_refl _) hn,hl⟩
theorem lU(a b:Nat):(2:Rat)^(a+b)=2^a*2^b:=by
 induction b with
 | zero=>simp
 | succ b ih=>rw [←Nat.add_assoc,Rat.pow_succ,Rat.pow_succ,ih];grind
theorem two_pow_pos(a:Nat):(0:Rat)<2^a:=Rat.pow_pos (by decide)
theorem lV:∀a:Nat,(1:Rat)≤2^a
 | 0=>by simp
 | a+1=>by
  have:=lV a
  rw [Rat.pow_succ];grind
theorem jS{a b:Nat}(h:a≤b):(2:Rat)^a≤2^b:=by
 obtain⟨c,rfl⟩:=Nat.exists_eq_add_of_le h
 rw [lU]
 have h1:=lV c
 have h2:=Rat.mul_le_mul_of_nonneg_left h1 (Rat.le_of_lt (two_pow_pos a))
 grind
theorem JJ{c:Int}{s:Nat}(h:c.natAbs<2^s):Ab (c:Rat) (2^s):=by
 have h1:((2^s:Int):Rat)=2^s:=by rw [Rat.intCast_pow];rfl
 have h2:(2^s:Int)=((2^s:Nat):Int):=by rw [Int.natCast_pow];rfl
 constructor
 ·rw [←h1,←Rat.intCast_neg]
  exact Rat.intCast_le_intCast.2 (by omega)
 ·rw [←h1]
  exact Rat.intCast_le_intCast.2 (by omega)
theorem afy{c:Int}{s:Nat}(h:sz 2 c≤s):Ab (c:Rat) (2^s):=
 JJ (Nat.lt_of_lt_of_le (lH (b:=2) (by decide) c) (Nat.pow_le_pow_right (by decide) h))
theorem BZ.ab{s n:Nat}{a:ZX}(h:BZ s n a):∀c∈a.l,Ab (c:Rat) (2^s):=fun c hc=>afy (h.sz c hc)
theorem FD(s β:Nat):∀k,AH (2^s) (2^β) k=2^(s+k*(β+2))
 | 0=>by simp [AH]
 | k+1=>by
  rw [AH,FD s β k,show s+(k+1)*(β+2)=s+k*(β+2)+β+1+1 by rw [Nat.add_mul];omega,Rat.pow_succ,Rat.pow_succ,lU _ β]
  grind
theorem BZ.at7{s n β:Nat}{a:ZX}(h:BZ s n a){t:Rat}(ht:Ab t (2^β)):Ab (e t a) (2^(s+n*(β+2))):=by
 have h1:=JC (S:=2^s) (B:=2^β) (Rat.le_of_lt (two_pow_pos s)) (lV β) ht a.l h.ab
 rw [FD]at h1
 exact h1.mono (jS (by have:=Nat.mul_le_mul_right (β+2) h.len;omega))
theorem QC{s' N:Nat}{y:List Int}(p7:Bd 2 s' N y)(cy:Cn y)(hy:0<y.length):∀(n j s:Nat) (x:List Int),Cn x→x.length<n→Bd 2 s N x→x.length+1≤y.length+j →
  ∃(m:Int) (q:List Int),0<m∧sz 2 m≤j*s'+1∧Bd 2 (s+j*(2*s'+N+2)) N q ∧ ∀t,m*V t x=V t q*V t y+V t (rq y n x)
 | 0,j,s,x,_,h,_,_=>by omega
 | n+1,j,s,x,cx,h,bx,hj=>by
  rw [rq]
  split
  ·exact⟨1,[],by decide,Nat.le_trans (dN (k:=1) (by decide) (by decide)) (by omega),⟨by simp,fun c hc=>by cases hc⟩,fun t=>by simp [V]⟩
  ·rename_i h1
   obtain⟨j,rfl⟩:∃i,j=i+1:=⟨j-1,by omega⟩
   have hl:=p8 hy (show y.length≤x.length by omega)
   have hb:=MV p7 bx hy (show y.length≤x.length by omega)
   obtain⟨m,q,hm,hms,hq,h4⟩:=QC p7 cy hy n j _ (PY y x) (Cn.eE _ _) (by omega) hb (by omega)
   have GB:=cM cy hy
   have e1:(j+1)*s'=j*s'+s':=by rw [Nat.add_mul];omega
   have e2:(j+1)*(2*s'+N+2)=j*(2*s'+N+2)+(2*s'+N+2):=by rw [Nat.add_mul];omega
   have e3:j*s'≤j*(2*s'+N+2):=Nat.mul_le_mul_left _ (by omega)
   have sx:sz 2 (tZ (lead y)*lead x)≤s:=by
    refine Nat.le_trans (cS (b:=2) (by decide) ?_) (fE bx)
    rw [Int.natAbs_mul]
    have:(tZ (lead y)).natAbs=1:=by unfold tZ;split<;>rfl
    rw [this,Nat.one_mul];exact Nat.le_refl _
   have rD:=(Bd.aX (b:=2) (by decide) (Bd.n6 (b:=2) sx (x.length-y.length)) hms)
   have hlen:=bx.len
   refine⟨m*(lead y).natAbs,gB q (aX (n6 (x.length-y.length) (tZ (lead y)*lead x)) m),Int.mul_pos hm (by omega),?_,?_,fun t=>?_⟩
   ·have h8:sz 2 ((lead y).natAbs:Int)≤s':=Nat.le_trans (cS (b:=2) (by decide) (by simp)) (fE p7)
    have:=b5 (b:=2) (by decide) hms h8
    omega
   ·refine(Bd.gB (b:=2) (s:=s+(j+1)*(2*s'+N+2)-1) (by decide) (hq.mono (by omega) (Nat.le_refl _)) (rD.mono (by omega) (by omega))).mono (by omega) (Nat.le_refl _)
   ·have h5:=ZO t y x
    have h6:=h4 t
    rw [oT,b8,lI]
    have:m*((lead y).natAbs:Int)*V t x=m*(((lead y).natAbs:Int)*V t x):=by grind
    rw [this,h5]
    grind
theorem ai6{s n:Nat}{a b:ZX}(ha:BZ s n a)(hb:BZ s n b)(h0:b≠0):∃(m:Int) (q:ZX),0<m∧sz 2 m≤(n+1)*s+1∧BZ (s+(n+1)*(2*s+n+2)) n q∧((nx a b=0∧K m*a=q*b)∨(nx a b≠0 ∧ ∃k:Int,0<k∧K m*a=q*b-K k*nx a b)):=by
 obtain⟨R7,hN,_⟩:=p9 (a:=a) h0
 obtain⟨m,q,hm,hms,hq,e⟩:=QC hb b.c (ZX.aF.1 h0) (a.l.length+1) (n+1) s a.l a.c (by omega) ha (by have:=ha.len;have:=ZX.aF.1 h0;show a.l.length+1≤b.l.length+(n+1);omega)
 rw [←R7]at e
 have e1:K m*a=ZX.of q*b+rz a b:=ZX.ext fun t=>by rw [dD,sE,j3,dD,MR];exact e t
 refine⟨m,ZX.of q,hm,hms,Bd.cut hq,?_⟩
 by_cases hr:rz a b=0
 ·left
  refine⟨?_,by rw [e1,hr];grind⟩
  exact ZX.ext fun t=>by
   show V t (fK (iX (rz a b).l))=_
   rw [hr];rfl
 ·right
  have hrn:(rz a b).l ≠ []:=uP hr
  have hp:=zO (rz a b).c hrn
  have hg:=bX (rz a b).c hrn
  have hnx:K (bH (rz a b).l:Int)*nx a b = -(rz a b):=ZX.ext fun t=>by
   rw [dD,sE,CP]
   show _*V t (fK (iX (rz a b).l))=_
   rw [yK]
   have h2:V t (rz a b).l=V t (iX (rz a b).l)*(bH (rz a b).l:Int):=by rw [←dE,hp]
   rw [h2];grind
  refine⟨fun h=>hr ?_,_,Int.natCast_pos.2 (Nat.pos_of_ne_zero hg),by rw [hnx,e1];grind⟩
  rw [h]at hnx
  have:(rz a b) = -(K (bH (rz a b).l:Int)*0):=by rw [hnx];grind
  rw [this];grind
theorem JK{a b:ZX}(hb:b≠0)(hg:gz a b=1)(hd:dv b a):∃c:Int,c≠0∧b=K c:=by
 have h1:=(kX a b).least hd (dv.refl b)
 rw [hg]at h1
 have h2:=h1.pB zC
 rw [ZX.CQ]at h2
 have:=ZX.aF.1 hb
 exact ZX.lM (by omega)
def F1(C n β:Nat):Nat:=C+(n+1)*(2*C+n+2)+n*(β+2)+2
theorem QD{C n β:Nat}(hn:n≤20):∀(k s:Nat) (a b:ZX),ZX.N b≤k→b≠0→BZ s n a→BZ s n b→wQ C n s a b→gz a b=1→StC (2^F1 C n β) (2^β) (a::rV k a b) ∧ ∀p∈rV k a b,BZ C n p
 | 0,s,a,b,hk,h0,_,_,_,_=>absurd hk (by have:=ZX.aF.1 h0;omega)
 | k+1,s,a,b,hk,h0,ha,hb,hp,hg=>by
  have hs:=hp.le
  have hNb:=ZX.aF.1 h0
  obtain⟨m,q,hm,hms,hq,hr⟩:=ai6 ha hb h0
  rw [rV,if_neg (by omega)]
  have hbC:BZ C n b:=hb.mono (by omega) (Nat.le_refl _)
  rcases hr with ⟨hz,e1⟩ | ⟨hz,kk,hkk,e1⟩
  ·rw [hz,jD]
   exact⟨JK h0 hg ⟨m,by omega,q,e1⟩,fun p hp=>by
    simp only [List.mem_cons,List.not_mem_nil,or_false]at hp
    subst hp;exact hbC⟩
  ·have hN:=TH (a:=a) h0
   have sI:gz b (nx a b)=1:=by
    rw [←hg]
    exact(EZ (c:=m) (k := -kk) (q:=q) (by omega) (by omega) (by rw [e1,show K (-kk) = -K kk from ZX.ext fun t=>by rw [sE,CP,sE]];grind)).symm
   obtain⟨ih,ih2⟩:=QD hn k _ b (nx a b) (by omega) hz (hb.mono (Nat.le_add_right _ _) (Nat.le_refl _)) (P4 ha hb h0) (hp.step hN) sI
   refine⟨?_,fun p hp=>?_⟩
   ·obtain⟨k2,rfl⟩:∃k2,k=k2+1:=⟨k-1,by have:=ZX.aF.1 hz;omega⟩
    rw [rV,if_neg (by have:=ZX.aF.1 hz;omega)]at ih ⊢
    have c1:(n+1)*s≤(n+1)*(2*C+n+2):=Nat.mul_le_mul_left _ (by omega)
    have c2:(n+1)*(2*s+n+2)≤(n+1)*(2*C+n+2):=Nat.mul_le_mul_left _ (by omega)
    refine⟨ih,m,kk,q,hm,hkk,e1,?_,fun t ht=>?_⟩
    ·have h1:=(afy hms).2
     have h2:=jS (show (n+1)*s+1+1≤F1 C n β by unfold F1;omega)
     rw [Rat.pow_succ]at h2
     grind
    ·have h1:=(BZ.at7 hq ht)
     have h2:=(Ab.mul (x:=2) (M:=2) ⟨by decide,by decide⟩ h1)
     refine h2.mono ?_
     have h3:=jS (show s+(n+1)*(2*s+n+2)+n*(β+2)+1≤F1 C n β by unfold F1;omega)
     rw [Rat.pow_succ]at h3
     grind
   ·rcases List.mem_cons.1 hp with rfl | hp
    ·exact hbC
    ·exact ih2 p hp
theorem JL:∀(k:Nat) (a b:ZX),(rV k a b).length≤ZX.N b
 | 0,a,b=>by simp [rV]
 | k+1,a,b=>by
  rw [rV]
  split
  ·simp
  ·rename_i h0
   have:=TH (a:=a) (ZX.aF.2 (Nat.pos_of_ne_zero h0))
   have:=JL k b (nx a b)
   simp only [List.length_cons];omega
theorem apq{a:ZX}(ha:a≠0):∃c:Int,0<c∧a=K c*oB a:=by
 have hp:=zO a.c (uP ha)
 refine⟨(bH a.l:Int),Int.natCast_pos.2 (Nat.pos_of_ne_zero (bX a.c (uP ha))),ZX.ext fun t=>?_⟩
 rw [dD,sE]
 show _=_*V t (iX a.l)
 have h2:V t a.l=V t (iX a.l)*(bH a.l:Int):=by rw [←dE,hp]
 rw [h2];grind
theorem adm{C s n β:Nat}{f:ZX}(hn:n≤20)(hf:f≠0)(hb:BZ (s+5) n f)(hp:wQ C n (s+5) f (oB (b6 f)))(bd:BZ (s+5) n (oB (b6 f)))(hg:gz f (b6 f)=1):StC (2^F1 C n β) (2^β) (bE f)∧(∀p∈bE f,BZ C n p)∧(bE f).length≤n+1 ∧ ∀g k,rV (ZX.N f) f (oB (b6 f))=g::k → ∃c:Int,0<c∧b6 f=K c*g:=by
 have hs:=hp.le
 have hfC:BZ C n f:=hb.mono (by omega) (Nat.le_refl _)
 have hNf:=hb.N
 have h1:=n4 f
 have h2:ZX.N (oB (b6 f))≤ZX.N (b6 f):=kW _
 by_cases h0:b6 f=0
 ·have vO:oB (b6 f)=0:=by rw [h0];exact ZX.ext fun t=>rfl
  have hc:bE f = [f]:=by unfold bE;rw [vO,jD]
  rw [hc]
  have hN1:ZX.N f≤1:=Classical.byContradiction fun h=>EW (a:=f) (by omega) h0
  refine⟨ZX.lM (by have:=ZX.aF.1 hf;omega),fun p hp=>by
   simp only [List.mem_cons,List.not_mem_nil,or_false]at hp
   subst hp;exact hfC,by simp,fun g k h=>?_⟩
  rw [vO,jD]at h;cases h
 ·obtain⟨c,hc,e⟩:=apq h0
  have vO:oB (b6 f)≠0:=fun h=>h0 (by rw [e,h];grind)
  have sI:gz f (oB (b6 f))=1:=by
   rw [←hg]
   refine zL (dv.refl f) (dv.refl f) ⟨1,by decide,K c,by rw [e];show(1:ZX)*_=_;grind⟩ ⟨c,by omega,1,by grind⟩
  obtain⟨g1,g2⟩:=QD (β:=β) hn (ZX.N f) (s+5) f (oB (b6 f)) (by omega) vO hb bd hp sI
  refine⟨g1,fun p hp=>?_,?_,fun g k h=>?_⟩
  ·rcases List.mem_cons.1 hp with rfl | hp
   ·exact hfC
   ·exact g2 p hp
  ·have:=JL (ZX.N f) f (oB (b6 f))
   show(f::rV (ZX.N f) f (oB (b6 f))).length≤_
   simp only [List.length_cons]
   omega
  ·obtain⟨j,hj⟩:∃j,ZX.N f=j+1:=⟨ZX.N f-1,by have:=ZX.aF.1 hf;omega⟩
   rw [hj,rV,if_neg (by have:=ZX.aF.1 vO;omega)]at h
   cases h
   exact⟨c,hc,e⟩
theorem QE(μ:Nat):∀k,(2:Rat)^(μ*k)*wR (2^μ) k=1
 | 0=>by simp [wR]
 | k+1=>by
  have h1:=QE μ k
  have h2:wR (2^μ) (k+1)=wR (2^μ) k/2^μ:=rfl
  have h3:wR ((2:Rat)^μ) k/2^μ*2^μ=wR (2^μ) k:=Rat.div_mul_cancel (Rat.ne_of_gt (two_pow_pos μ))
  rw [h2,Nat.mul_add,Nat.mul_one,lU]
  grind
def jb(C n β:Nat):Nat:=(n+1)*F1 C n β+C+n*(β+2)+1
theorem adn{C s n β:Nat}{f:ZX}(hn:n≤20)(hf:f≠0)(hb:BZ (s+5) n f)(hp:wQ C n (s+5) f (oB (b6 f)))(bd:BZ (s+5) n (oB (b6 f)))(hg:gz f (b6 f)=1){δ:Rat}(hδ:δ*2^jb C n β≤1):Lcl (bE f) f (2^β) δ:=by
 obtain⟨h1,h2,h3,h4⟩:=adm (β:=β) hn hf hb hp bd hg
 have hM:(2:Rat)≤2^F1 C n β:=by
  have:=jS (show 1≤F1 C n β by unfold F1;omega)
  rw [Rat.pow_one]at this
  exact this
 refine StC.loc (Q:=2^(C+n*(β+2))) hM (lV β) (Rat.le_of_lt (two_pow_pos C)) h1 (fun p hp=>⟨(h2 p hp).ab,?_⟩) h4 ?_
 ·rw [FD]
  exact jS (by have:=Nat.mul_le_mul_right (β+2) (h2 p hp).len;omega)
 ·have e1:=QE (F1 C n β) (bE f).length
  have hε:=tO hM (bE f).length
  have h5:F1 C n β*(bE f).length+(C+n*(β+2))+1≤jb C n β:=by
   have:=Nat.mul_le_mul_left (F1 C n β) h3
   rw [Nat.mul_comm (F1 C n β) (n+1)]at this
   unfold jb;omega
  have h6:=jS h5
  rw [Rat.pow_succ,lU]at h6
  have hA:=two_pow_pos (F1 C n β*(bE f).length)
  have hB:=two_pow_pos (C+n*(β+2))
  show δ*2^(C+n*(β+2))<wR (2^F1 C n β) (bE f).length
  generalize (2:Rat)^(F1 C n β*(bE f).length)=A at *
  generalize (2:Rat)^(C+n*(β+2))=Q at *
  generalize wR ((2:Rat)^F1 C n β) (bE f).length=ε at *
  generalize (2:Rat)^jb C n β=J at *
  by_cases h0:0<δ
  ·have h7:=Rat.mul_le_mul_of_nonneg_left h6 (Rat.le_of_lt h0)
   have h8:δ*Q*A≤1/2:=by grind
   refine Rat.lt_of_mul_lt_mul_right (c:=A) ?_ (Rat.le_of_lt hA)
   grind
  ·have h7:=Rat.mul_le_mul_of_nonneg_right (show δ≤0 by grind) (Rat.le_of_lt hB)
   grind
theorem FE:∀(l:List Int) (n:Nat) (p:Int),(l.foldl rZ (n,p)).1=n+BB p l
 | [],n,p=>rfl
 | s::l,n,p=>by
  have h:rZ (n,p) s=if s=0 then(n,p)else(if p≠0∧s≠p then n+1 else n,s):=rfl
  rw [List.foldl_cons,h]
  simp only [BB]
  split
  ·exact FE l n p
  ·split<;>rw [FE l]<;>omega
theorem M9(l:List Int):vr l=BB 0 l:=by
 rw [vr,FE];omega
theorem afz{n d:Int}{q:Rat}(h:(n:Rat)=q*d):∀x:List Int,((hm n d x).1:Rat)*d=qv q x*(d:Rat)^x.length∧((hm n d x).2:Rat)=(d:Rat)^x.length
 | []=>by
  refine⟨?_,?_⟩
  ·show((0:Int):Rat)*d=0*_
   rw [Rat.intCast_zero,Rat.zero_mul,Rat.zero_mul]
  ·show((1:Int):Rat)=(d:Rat)^0
   rw [Rat.intCast_one,Rat.pow_zero]
 | a::l=>by
  obtain⟨h1,h2⟩:=afz h l
  have e:hm n d (a::l)=((hm n d l).1*n+a*(hm n d l).2,(hm n d l).2*d):=rfl
  rw [e]
  simp only [qv,List.length_cons,Rat.pow_succ,Rat.intCast_add,Rat.intCast_mul]
  rw [h,h2]
  refine⟨?_,rfl⟩
  have:(((hm n d l).1:Rat)*(q*d)+a*(d:Rat)^l.length)*d=((hm n d l).1:Rat)*d*(q*d)+a*((d:Rat)^l.length*d):=by grind
  rw [this,h1];grind
theorem TT(v:Int):v.sign=cZ (v:Rat):=by
 rcases Int.lt_trichotomy v 0 with h | h | h
 ·rw [Int.sign_eq_neg_one_of_neg h,gK (Rat.intCast_neg_iff.2 h)]
 ·subst h;decide
 ·rw [Int.sign_eq_one_of_pos h,eI (Rat.intCast_pos.2 h)]
theorem xF(p:ZX)(q:Rat):E5 p.l q.num q.den=cZ (e q p):=by
 have hd:(0:Rat)<((q.den:Int):Rat):=Rat.intCast_pos.2 (by have:=q.den_pos;omega)
 have hq:((q.num:Int):Rat)=q*((q.den:Int):Rat):=by
  have h1:q=(q.num:Rat)/((q.den:Int):Rat):=by
   rw [←Rat.divInt_eq_div,Rat.num_divInt_den]
  have h2:=Rat.div_mul_cancel (a:=(q.num:Rat)) (Rat.ne_of_gt hd)
  rw [←h1]at h2
  exact h2.symm
 have h1:=(afz hq p.l).1
 show(hm q.num q.den p.l).1.sign=cZ (qv q p.l)
 rw [TT]
 have h2:cZ (((hm q.num q.den p.l).1:Rat)*((q.den:Int):Rat))=cZ (qv q p.l*((q.den:Int):Rat)^p.l.length):=by rw [h1]
 rw [w8,w8,eI hd,eI (Rat.pow_pos hd)]at h2
 omega
theorem r7(c:List ZX)(q:Rat):vr (j6 c q.num q.den)=vt c q:=by
 rw [M9]
 unfold vt j6 BC
 congr 1
 exact List.map_congr_left fun p _=>xF p q
theorem ai7(c:List ZX):∃S:Rat,0≤S ∧ ∀p∈c,∀x∈p.l,Ab (x:Rat) S:=by
 induction c with
 | nil=>exact⟨0,Rat.le_refl,fun p hp=>by cases hp⟩
 | cons a c ih =>
  obtain⟨S,hS,h⟩:=ih
  obtain⟨A,hA,ha⟩:=xC a.l
  refine⟨S+A,by grind,fun p hp x hx=>?_⟩
  rcases List.mem_cons.1 hp with rfl | hp
  ·exact(ha x hx).mono (by grind)
  ·exact(h p hp x hx).mono (by grind)
theorem Z8(c:List ZX):∃X:Rat,1≤X∧(∀t,X≤t→vt c t=vr (BD c)) ∧ ∀t,t ≤ -X→vt c t=vr (P7 c):=by
 obtain⟨S,hS,h⟩:=ai7 c
 refine⟨S+1,by grind,fun t ht=>?_,fun t ht=>?_⟩
 ·rw [M9]
  unfold vt BD BC
  congr 1
  exact List.map_congr_left fun p hp=>(CX hS p.c (h p hp)).1 ht
 ·rw [M9]
  unfold vt P7 BC
  congr 1
  exact List.map_congr_left fun p hp=>(CX hS p.c (h p hp)).2 ht
theorem FF{a:ZX}(ha:a≠0):Nf (sq a) ∧ ∀p,ZX.oA p→ZX.mu p (sq a)=min (ZX.mu p a) 1:=by
 have hA:=lN ha
 unfold sq
 split
 ·rename_i h
  refine⟨hA,fun p hp=>?_⟩
  obtain⟨c,hc,rfl⟩:=ZX.lM (x:=a) (by have:=ZX.aF.1 ha;omega)
  rw [ZB hp ha,ZX.Y5 hp hc];rfl
 ·exact⟨ZI hA,fun p hp=>by rw [ZJ hA hp,ZB hp ha]⟩
theorem Z9{a:ZX}(ha:a≠0):gz (sq a) (b6 (sq a))=1:=by
 obtain⟨h1,h2⟩:=FF ha
 refine Nf.zK (PT h1.ne) Nf.one fun p hp=>?_
 have e1:mu p (1:ZX)=0:=Y5 hp (by decide)
 have h3:=afo h1.ne hp
 rw [h2 p hp]at h3
 rw [e1]
 show mu p (gd (sq a))=0
 rw [h3]
 omega
theorem QF{a:ZX}(ha:a≠0):dv (sq a) a:=(JI ha).2.trans (CS a).2
theorem Lcl.mono{L:List ZX}{f:ZX}{B C δ:Rat}(h:Lcl L f B δ)(hc:C≤B):Lcl L f C δ:=
 ⟨fun s t hs ht=>h.turns s t (hs.mono hc) (ht.mono hc),fun s t hs ht=>h.simple s t (hs.mono hc) (ht.mono hc)⟩
theorem NA(B:Rat):∃β:Nat,B≤2^β:=by
 have h1:=Rat.lt_floor_add_one B
 refine⟨(B.floor+1).toNat,Rat.le_trans (Rat.le_of_lt h1) ?_⟩
 have h2:((2^(B.floor+1).toNat:Int):Rat)=2^(B.floor+1).toNat:=by rw [Rat.intCast_pow];rfl
 rw [←h2]
 refine Rat.intCast_le_intCast.2 ?_
 have h3:(B.floor+1).toNat<2^(B.floor+1).toNat:=Nat.lt_two_pow_self
 have h4:((2^(B.floor+1).toNat:Nat):Int)=2^(B.floor+1).toNat:=by rw [Int.natCast_pow];rfl
 omega
theorem Ch.zW{s n:Nat}{f:ZX}(h:Ch s n f)(hf:f≠0)(hg:gz f (b6 f)=1):tP (bE f) f:=⟨fun B hB=>by
 have hn:=h.hn
 obtain⟨β,hβ⟩:=NA B
 have bd:BZ (s+5) n (b6 f):=h.bz.b6 (by omega)
 have hJ:=two_pow_pos (jb 4500000000 n β)
 have hJ1:(1:Rat)/2^jb 4500000000 n β*2^jb 4500000000 n β=1:=Rat.div_mul_cancel (Rat.ne_of_gt hJ)
 refine⟨1/2^jb 4500000000 n β,(Rat.lt_div_iff hJ).2 (by grind),?_⟩
 exact Lcl.mono (adn hn hf (h.bz.mono (by omega) (Nat.le_refl _)) h.pot (jC bd) hg (by rw [hJ1];exact Rat.le_refl)) hβ⟩
theorem tY.zW{s n:Nat}{a:ZX}(h:tY s n a)(h0:a≠0)(JA:1≤n):tP (bE (sq a)) (sq a):=(h.ch h0 JA).zW (FF h0).1.ne (Z9 h0)
def j4(t:Rat):ZX:=of [-t.num,(t.den:Int)]
theorem NB(s t:Rat):e s (j4 t)=((t.den:Int):Rat)*(s-t):=by
 rw [j4,CY,Rat.intCast_neg]
 have hd:(0:Rat)<((t.den:Int):Rat):=Rat.intCast_pos.2 (by have:=t.den_pos;omega)
 have hq:((t.num:Int):Rat)=t*((t.den:Int):Rat):=by
  have h1:t=(t.num:Rat)/((t.den:Int):Rat):=by
   rw [←Rat.divInt_eq_div,Rat.num_divInt_den]
  have h2:=Rat.div_mul_cancel (a:=(t.num:Rat)) (Rat.ne_of_gt hd)
  rw [←h1]at h2
  exact h2.symm
 rw [hq];grind
theorem pE(t:Rat):ZX.N (j4 t)=2:=by
 have:aM [-t.num,(t.den:Int)] = [-t.num,(t.den:Int)]:=gV (x:=(t.den:Int)) (by have:=t.den_nz;omega) [-t.num]
 show(aM [-t.num,(t.den:Int)]).length=2
 rw [this];rfl
theorem JM(t:Rat):oA (j4 t):=⟨by rw [pE];decide,fun d hd=>by
 have h0:j4 t≠0:=ZX.aF.2 (by rw [pE];decide)
 have h1:=hd.pB h0
 have h2:=ZX.aF.1 (hd.ne h0)
 rw [pE]at h1 ⊢
 omega⟩
theorem apr{a b:ZX}{t:Rat}(h:dv b a)(hb:e t b=0):e t a=0:=by
 obtain⟨c,hc,q,he⟩:=h
 have h1:(c:Rat)*e t a=e t q*e t b:=by rw [←UI (t:=t) c,←mS,he,mS]
 rw [hb,Rat.mul_zero]at h1
 exact(Rat.mul_eq_zero.1 h1).resolve_left fun h=>hc (Rat.intCast_eq_zero_iff.1 h)
theorem FG{a:ZX}{t:Rat}:e t a=0↔dv (j4 t) a:=by
 have h0:j4 t≠0:=ZX.aF.2 (by rw [pE];decide)
 have hz:e t (j4 t)=0:=by rw [NB];grind
 refine⟨fun ha=>?_,fun h=>apr h hz⟩
 obtain⟨c,hc,q,r,he,hN⟩:=ZX.Y3 a h0
 have h1:e t (K c*a)=e t q*e t (j4 t)+e t r:=by rw [he,afv,mS]
 rw [mS,ha,hz]at h1
 have hr:e t r=0:=by grind
 have BO:r=0:=Classical.byContradiction fun BO=>by
  rw [pE]at hN
  obtain⟨k,hk,rfl⟩:=ZX.lM (x:=r) (by have:=ZX.aF.1 BO;omega)
  rw [UI]at hr
  exact hk (Rat.intCast_eq_zero_iff.1 hr)
 exact⟨c,hc,q,by rw [he,BO];grind⟩
theorem FH{a:ZX}(ha:a≠0){t:Rat}:e t (sq a)=0↔e t a=0:=by
 refine⟨apr (QF ha),fun h=>?_⟩
 have hp:=JM t
 have h1:=FG.1 h
 obtain⟨g1,g2⟩:=FF ha
 have p1:(j4 t)^1=j4 t:=by rw [pow_succ',gJ];grind
 have h2:1≤mu (j4 t) a:=(mR hp ha).2 (by rw [p1];exact h1)
 have h3:1≤mu (j4 t) (sq a):=by rw [g2 _ hp];omega
 have h4:=(mR hp g1.ne).1 h3
 rw [p1]at h4
 exact FG.2 h4
theorem TU{L:List ZX}{f:ZX}(h:tP L f){b:Rat}(hb:∀a,Bg a b f):vr (P7 L)=vt L b:=by
 obtain⟨X,hX,_,h2⟩:=Z8 L
 by_cases AP:b ≤ -X
 ·exact(h2 b AP).symm
 ·rw [←h2 (-X) Rat.le_refl]
  exact h.bg (hb (-X)) (Rat.not_le.1 AP)
theorem r8{L:List ZX}{f:ZX}(h:tP L f){a:Rat}(ha:∀b,Bg a b f):vr (BD L)=vt L a:=by
 obtain⟨X,hX,h1,_⟩:=Z8 L
 by_cases AP:X≤a
 ·exact(h1 a AP).symm
 ·rw [←h1 X Rat.le_refl]
  exact(h.bg (ha X) (Rat.not_le.1 AP)).symm
theorem iW(p q:Rat):(dJ (p.num*q.den) (q.num*p.den)<0)↔p<q:=by
 rw [mI,Rat.lt_iff]
theorem QG(C:List ZX)(q:Rat):vt C q≤C.length:=by
 have:=tR (j6 C q.num q.den)
 rw [r7]at this
 simpa [j6]using this
theorem aaa{n d:Int}(h:d≠0):cY n d=(n:Rat)/d:=by rw [cY,if_neg h,Rat.divInt_eq_div]
theorem NC{n d:Int}(h:d≠0){q:Rat}(e:(n:Rat)=q*d):cY n d=q:=by
 have hd:(d:Rat)≠0:=fun h0=>h (Rat.intCast_eq_zero_iff.1 h0)
 rw [aaa h,e,Rat.mul_div_cancel hd]
theorem FI(q:Rat):((q.num:Int):Rat)=q*((q.den:Int):Rat):=by
 have hd:(0:Rat)<((q.den:Int):Rat):=Rat.intCast_pos.2 (by have:=q.den_pos;omega)
 have h1:q=(q.num:Rat)/((q.den:Int):Rat):=by
  rw [←Rat.divInt_eq_div,Rat.num_divInt_den]
 have h2:=Rat.div_mul_cancel (a:=(q.num:Rat)) (Rat.ne_of_gt hd)
 rw [←h1]at h2
 exact h2.symm
theorem ado{n d:Int}(hn:sz LL n<1099511627770)(hd:sz LL d<1099511627770)(h0:d≠0):aL env.P 146 [I n,I d] (.dX [RT (cY n d), .int .i64 0]):=by
 have n1:=EG (x:=d) (by show _<_;omega)
 have n2:=EG (x:=n) (by show _<_;omega)
 have z1:=CZ d
 have l1:=rY hn hd h0
 rw [show decide (d=0)=false from decide_eq_false h0]at z1
 show aL env.P _ _ (.dX [T2 (cY n d).num (cY n d).den,_])
 replace l1:aL env.P 169 [I n,I d] (T2 (cY n d).num (cY n d).den):=l1
 generalize (cY n d).num=rn at *
 generalize ((cY n d).den:Int)=rd at *
 refine cH [(0,I n),(1,I d)] Tryz.func146 ?_
 refine aA [2,3,4] ?_
 refine W.seq ?_
 refine a7 [2,3,4] n1 ?_
 refine a7 [2,3,4,9] z1 ?_
 refine bP ?_ ?_<;>intro h
 ·simp at h
 refine W.skip ?_
 refine W.sd ?_
 simp (maxSteps:=4000000) (disch:=omega) [gw]
 refine aC n2 ?_
 simp (maxSteps:=4000000) (disch:=omega) [gw]
 refine aC l1 ?_
 simp (maxSteps:=4000000) (disch:=omega) [gw]
 (try (refine cU (of_decide_eq_true (by kernel_rfl)) ?_));(try simp (maxSteps:=4000000) (disch:=omega) [gw]);(repeat rw [if_pos (by kernel_rfl)]);(try simp (maxSteps:=4000000) (disch:=omega) [gw])
 refine bM [4,5] ?_
 exact cR
theorem ai8(p q:Rat):cY (p.num*q.den+q.num*p.den) (p.den*q.den*2)=(p+q)/2:=by
 have h1:((p.den:Int)*q.den*2)≠0:=by
  have:=p.den_nz;have:=q.den_nz
  refine Int.mul_ne_zero (Int.mul_ne_zero ?_ ?_) (by decide)<;>omega
 refine NC h1 ?_
 rw [Rat.intCast_add,Rat.intCast_mul,Rat.intCast_mul,Rat.intCast_mul,Rat.intCast_mul,FI p,FI q]
 have h2:(p+q)/2*2=p+q:=Rat.div_mul_cancel (by decide)
 show _=(p+q)/2*(((p.den:Int):Rat)*((q.den:Int):Rat)*2)
 generalize (p+q)/2=m at *
 grind
theorem JN{p q:Rat}{k:Nat}(hp:sz LL p.num≤k∧sz LL (p.den:Int)≤k)(hq:sz LL q.num≤k∧sz LL (q.den:Int)≤k)(hk:k≤300000000000):aL env.P 91 [RT p,RT q] (RT ((p+q)/2)):=by
 have c1:=C0 hp.1 hp.2 hq.1 hq.2 (by omega) (fM p) (fM q) hp hq
 have g1:=b5 (b:=LL) fR hp.1 hq.2
 have g2:=b5 (b:=LL) fR hq.1 hp.2
 have g3:=b5 (b:=LL) fR hp.2 hq.2
 have s2:sz LL 2≤1:=dN (k:=1) fR (by decide)
 have g4:=b5 (b:=LL) fR g3 s2
 have g5:=l6 (b:=LL) fR (Nat.le_trans g1 (show k+k≤k+k from Nat.le_refl _)) (Nat.le_trans g2 (show k+k≤k+k from Nat.le_refl _))
 have a1:=OX (x:=p.num*q.den) (y:=q.num*p.den) (by show _<_;omega) (by show _<_;omega)
 have o1:=yR 2 (by decide) (by decide)
 have m1:=s6 (x:=(p.den:Int)*q.den) (y:=2) (by show _<_;omega) (by show _<_;omega)
 have h1:((p.den:Int)*q.den*2)≠0:=by
  have:=p.den_nz;have:=q.den_nz
  refine Int.mul_ne_zero (Int.mul_ne_zero ?_ ?_) (by decide)<;>omega
 have l1:=rY (n:=p.num*q.den+q.num*p.den) (d:=p.den*q.den*2) (by omega) (by omega) h1
 rw [ai8]at l1
 show aL env.P _ [T2 p.num p.den,T2 q.num q.den] (T2 ((p+q)/2).num ((p+q)/2).den)
 replace l1:aL env.P 169 [I (p.num*q.den+q.num*p.den),I (p.den*q.den*2)] (T2 ((p+q)/2).num ((p+q)/2).den):=l1
 clear g1 g2 g3 g4 g5 h1 hp hq
 generalize ((p+q)/2).num=rn at *
 generalize (((p+q)/2).den:Int)=rd at *
 generalize p.num*(q.den:Int)+q.num*p.den=x4 at *
 generalize (p.den:Int)*q.den*2=x5 at *
 generalize p.num*(q.den:Int)=x1 at *
 generalize q.num*(p.den:Int)=x2 at *
 generalize (p.den:Int)*(q.den:Int)=x3 at *
 generalize p.num=pn at *
 generalize (p.den:Int)=pd at *
 generalize q.num=qn at *
 generalize (q.den:Int)=qd at *
 refine cH [(0,T2 pn pd),(1,T2 qn qd)] Tryz.func91 ?_
 refine aA [2,3,4] ?_
 refine a7 [4,5,6,7] c1 ?_
 refine W.sd ?_
 simp (maxSteps:=4000000) (disch:=omega) [gw]
 refine aC a1 ?_
 simp (maxSteps:=4000000) (disch:=omega) [gw]
 refine aC o1 ?_
 simp (maxSteps:=4000000) (disch:=omega) [gw]
 refine aC m1 ?_
 simp (maxSteps:=4000000) (disch:=omega) [gw]
 refine aC l1 ?_
 simp (maxSteps:=4000000) (disch:=omega) [gw]
 (try (refine cU (of_decide_eq_true (by kernel_rfl)) ?_));(try simp (maxSteps:=4000000) (disch:=omega) [gw]);(repeat rw [if_pos (by kernel_rfl)]);(try simp (maxSteps:=4000000) (disch:=omega) [gw])
 refine bM [4] ?_
 exact cR
theorem TV{p:Rat}(hp:sz LL p.num<1099511627770∧sz LL (p.den:Int)<1099511627770):aL env.P 73 [RT p] (RT (-p)):=by
 have n1:=qB hp.1 hp.2
 rw [fM]at n1
 have n2:=ae0 (x:=p.num) (by show _<_;omega)
 replace n1:aL env.P 147 [T2 p.num p.den] (T2 p.num p.den):=n1
 show aL env.P _ [T2 p.num p.den] (T2 (-p).num (-p).den)
 rw [Rat.neg_num,Rat.neg_den]
 generalize -p.num=rn at *
 generalize p.num=pn at *
 generalize (p.den:Int)=pd at *
 refine cH [(0,T2 pn pd)] Tryz.func73 ?_
 refine aA [1,2] ?_
 refine a7 [1,2] n1 ?_
 refine a7 [1,2] n2 ?_
 refine aA [2] ?_
 exact cR
theorem aab{d:Int}(h:sz LL d<4294967296):aL env.P 156 [I d] (RI d):=by
 have h1:=CD (decide (d<0)) (aY LL d.natAbs) (by have:sz LL d=(aY LL d.natAbs).length:=rfl;omega) (eT fR _)
 rw [show iv (decide (d<0)) (aY LL d.natAbs)=d from HM d]at h1
 exact h1
theorem TW{p:Rat}(hp:sz LL p.num<4294967296∧sz LL (p.den:Int)<4294967296)(hY:Y p.num∧Y (p.den:Int)):aL env.P 82 [RT p] (RR p):=by
 have f1:=aab hp.1
 have f2:=aab hp.2
 have m1:=kV p.num p.den hY.1 hY.2
 rw [fM,eP]at m1
 rw [eP]
 show aL env.P _ [T2 p.num p.den] _
 replace f1:aL env.P 156 [I p.num] (RI p.num):=f1
 replace f2:aL env.P 156 [I (p.den:Int)] (RI (p.den:Int)):=f2
 generalize p.num=pn at *
 generalize (p.den:Int)=pd at *
 refine cH [(0,T2 pn pd)] Tryz.func82 ?_
 refine aA [1,2] ?_
 refine W.sd ?_
 simp (maxSteps:=4000000) (disch:=omega) [gw]
 refine aC f1 ?_
 simp (maxSteps:=4000000) (disch:=omega) [gw]
 refine aC f2 ?_
 simp (maxSteps:=4000000) (disch:=omega) [gw]
 refine aC m1 ?_
 simp (maxSteps:=4000000) (disch:=omega) [gw]
 (try (refine cU (of_decide_eq_true (by kernel_rfl)) ?_));(try simp (maxSteps:=4000000) (disch:=omega) [gw]);(repeat rw [if_pos (by kernel_rfl)]);(try simp (maxSteps:=4000000) (disch:=omega) [gw])
 refine bM [2] ?_
 exact cR
theorem afA{x:Int}(hx:Sz x):aL env.P 143 [I x] (I (x.natAbs:Int)):=by
 have h1:=X5 (decide (x<0)) (aY LL x.natAbs) hx.UF
 rw [show V 4294967296 (aY LL x.natAbs)=(x.natAbs:Int)from jH fR _]at h1
 exact h1
def oC(x:List Int):Nat→Int
 | 0=>0
 | i+1=>if oC x i<((nth x i).natAbs:Int)then((nth x i).natAbs:Int)else oC x i
theorem aac(x:List Int):∀i,0≤oC x i
 | 0=>Int.le_refl _
 | i+1=>by
  have:=aac x i
  rw [oC];split<;>omega
theorem aad(x:List Int):∀i k,k<i→((nth x k).natAbs:Int)≤oC x i
 | 0,k,h=>by omega
 | i+1,k,h=>by
  rw [oC]
  by_cases hk:k=i
  ·subst hk;split<;>omega
  ·have:=aad x i k (by omega)
   split<;>omega
theorem FJ{b s n:Nat}{x:List Int}(h:Bd b s n x):∀i,Pm.sz b (oC x i)≤s
 | 0=>by show Pm.sz b 0≤s;rw [i7];omega
 | i+1=>by
  have ih:=FJ h i
  have h1:=h.nth i
  have h2:Pm.sz b ((nth x i).natAbs:Int)=Pm.sz b (nth x i):=by unfold Pm.sz;rw [Int.natAbs_natCast]
  rw [oC];split
  ·rw [h2];exact h1
  ·exact ih
def fP(x:List Int):Rat:=cY (((lead x).natAbs:Int)+oC x (x.length-1)) ((lead x).natAbs:Int)
theorem zY{α:Type}{g:α→List PV}{l:List α}{s n:Nat}{x:List Int}(hN:aL env.P 64 [aQ g l] (Po x))(cx:Cn x)(hx:x ≠ [])(b:Bd LL s n x)(hs:s<500000000000)(hn:n<500000000000):aL env.P 71 [aQ g l] (.dX [RT (fP x), .int .i64 0]):=by
 have nZ:0<x.length:=List.length_pos_iff.2 hx
 have hlen:=b.len
 have GB:=cM cx nZ
 have L1:=jN (PB.of b (by omega) (by omega)) cx
 have hld:=fE b
 have A1:=afA (x:=lead x) (Nat.lt_of_le_of_lt hld (by omega))
 have ai9:sz LL ((lead x).natAbs:Int)≤s:=Nat.le_trans (cS fR (by simp)) hld
 have hm:=FJ b (x.length-1)
 have S1:=OX (x:=((lead x).natAbs:Int)) (y:=oC x (x.length-1)) (Nat.lt_of_le_of_lt ai9 (by omega)) (Nat.lt_of_le_of_lt hm (by omega))
 have at8:=l6 (b:=LL) fR ai9 hm
 have M1:=ado (n:=((lead x).natAbs:Int)+oC x (x.length-1)) (d:=((lead x).natAbs:Int)) (by omega) (by omega) (by omega)
 replace M1:aL env.P 146 [I (((lead x).natAbs:Int)+oC x (x.length-1)),I ((lead x).natAbs:Int)] (.dX [T2 (fP x).num (fP x).den, .int .i64 0]):=M1
 show aL env.P _ _ (.dX [T2 (fP x).num (fP x).den,_])
 have C1:∀i,i<x.length→aL env.P 143 [I (nth x i)] (I ((nth x i).natAbs:Int))∧aL env.P 144 [I ((nth x i).natAbs:Int),I (oC x i)] (.int .i64 (dJ ((nth x i).natAbs:Int) (oC x i))):=fun i hi=>by
  have h1:=b.nth i
  have h2:sz LL ((nth x i).natAbs:Int)≤s:=Nat.le_trans (cS fR (by simp)) h1
  exact⟨afA (Nat.lt_of_le_of_lt h1 (by omega)),XS (Nat.lt_of_le_of_lt h2 (by omega)) (Nat.lt_of_le_of_lt (FJ b i) (by omega))⟩
 have T5:∀i,oC x (i+1)=if 0<dJ ((nth x i).natAbs:Int) (oC x i)then((nth x i).natAbs:Int)else oC x i:=fun i=>by
  rw [oC]
  by_cases h:oC x i<((nth x i).natAbs:Int)
  ·rw [if_pos h,if_pos (sU.2 h)]
  ·rw [if_neg h,if_neg (fun q=>h (sU.1 q))]
 have h0:oC x 0=0:=rfl
 clear hm at8 ai9 hld
 generalize (fP x).num=rn at *
 generalize ((fP x).den:Int)=rd at *
 generalize ((lead x).natAbs:Int)+oC x (x.length-1)=sm at *
 generalize ((lead x).natAbs:Int)=la at *
 generalize oC x=mf at *
 have e1:((x.length:Int)-1).toNat=x.length-1:=by omega
 have e2:(x.length:Int)-1=((x.length-1:Nat):Int):=by omega
 refine cH [(0,aQ g l)] Tryz.func71 ?_
 refine aA [0,2] ?_
 refine a7 [0,2] hN ?_
 refine aR [0,2,13] ?_
 refine bP ?_ ?_<;>intro h
 ·simp at h;exact absurd h hx
 refine W.skip ?_
 refine aA [0,2,4] ?_
 refine W.row (id:=4) (els:=[[.bool false, .nil]]) [[.bool (decide ((0:Int)<0)),us (aY LL (0:Int).natAbs)]] (by simp;first | exact⟨rfl,rfl,rfl⟩ | exact⟨rfl,rfl⟩ | rfl) ⟨⟨.inl rfl, .inr ⟨rfl,rfl⟩,trivial⟩,trivial⟩ ?_
 refine W.seq ?_
 refine W.sr ?_
 simp (disch:=omega) [gw,e1,e2]
 refine bM [0,2,4,19,20,21] ?_
 refine W.block ?_
 refine W.bC (fun k σ=>∃(v2 e2 v4 e4 i:Nat) (rows:Pm.Rows) (clk:Nat),σ=⟨fa [(0,Po x),(2, .ptr 2 v2 0 0),(4, .ptr 4 v4 0 0),(19,aQ ie (x.take (x.length-1))),(20, .int .i64 ((x.length-1:Nat):Int)),(21, .int .i64 i)],rows,clk⟩∧i+k=x.length-1 ∧
  rows 2=some ⟨v2,e2,4,[[.bool false, .nil, .bool false, .nil]]⟩∧rows 4=some ⟨v4,e4,2,[[.bool (decide (mf i<0)),us (aY LL (mf i).natAbs)]]⟩) (x.length-1) ?_ ?_
 ·exact⟨_, .refl,_,_,_,_,0,_,_,rfl,by omega,by simp;(first | exact⟨rfl,rfl⟩ | rfl),by rw [h0];simp;(first | exact⟨rfl,rfl⟩ | rfl)⟩
 rintro k _ ⟨v2,e2,v4,e4,i,rows,clk,rfl,XZ,dY,eU⟩
 refine cL [0,2,4,19,20,21,22] ?_
 refine bP ?_ ?_<;>intro h
 ·have hi:i<x.length-1:=by simp at h;omega
  have hi2:i<x.length:=by omega
  have wT:nth (x.take (x.length-1)) i=nth x i:=by unfold nth;rw [List.getElem?_take_of_lt hi]
  obtain⟨c1,c2⟩:=C1 i hi2
  have hm:=T5 i
  generalize dJ ((nth x i).natAbs:Int) (mf i)=cv at *
  generalize ((nth x i).natAbs:Int)=ab at *
  generalize nth x i=xi at *
  refine W.skip ?_
  refine W.iG (fun σ=>∃(v2 e2 v4 e4:Nat) (rows:Pm.Rows) (clk:Nat),σ=⟨fa [(0,Po x),(2, .ptr 2 v2 0 0),(4, .ptr 4 v4 0 0),(19,aQ ie (x.take (x.length-1))),(20, .int .i64 ((x.length-1:Nat):Int)),(21, .int .i64 i)],rows,clk⟩ ∧
   rows 2=some ⟨v2,e2,4,[[.bool false, .nil, .bool false, .nil]]⟩∧rows 4=some ⟨v4,e4,2,[[.bool (decide (mf (i+1)<0)),us (aY LL (mf (i+1)).natAbs)]]⟩) ?_ ?_
  ·refine W.sr ?_
   simp (disch:=omega) [gw,hi,wT]
   refine bM [0,2,4,6,19,20,21] ?_
   refine a7 [0,2,4,7,19,20,21] c1 ?_
   refine W.sr ?_
   simp (disch:=omega) [gw,eU]
   refine cV [0,2,4,7,19,20,21,30] c2 ?_
   refine bP ?_ ?_<;>intro h
   ·have h:0<cv:=by simpa using h
    rw [if_pos h]at hm
    refine W.cG (fun K hK=>?_);simp (disch:=omega) [gw,eU]
    exact hK _ ⟨_,aD _ [0,2,4,19,20,21],_,_,_,_,_,_,rfl,by simp [dY];exact rfl,by simp [hm];exact rfl⟩
   ·have h:¬0<cv:=by simpa using h
    rw [if_neg h]at hm
    refine W.skip ?_
    exact⟨_,aD _ [0,2,4,19,20,21],_,_,_,_,_,_,rfl,by simp [dY];exact rfl,by simp [hm,eU];exact rfl⟩
  rintro _ ⟨v2,e2,v4,e4,rows,clk,rfl,dY,eU⟩
  refine W.cG (fun K hK=>?_);simp (disch:=omega) [gw]
  refine hK _ ⟨k-1,_,aD _ [0,2,4,19,20,21],by omega,_,_,_,_,i+1,_,_,rfl,by omega,dY,eU⟩
 ·have hi:i=x.length-1:=by simp at h;omega
  subst hi
  refine fC ?_
  refine jM ?_
  refine cX L1 ?_
  refine cV [2,4,8] A1 ?_
  refine W.sd ?_
  simp (disch:=omega) [gw,eU]
  refine aC S1 ?_
  simp (maxSteps:=4000000) (disch:=omega) [gw]
  refine aC M1 ?_
  simp (disch:=omega) [gw,dY]
  (try (refine cU (of_decide_eq_true (by kernel_rfl)) ?_));(try simp (maxSteps:=4000000) (disch:=omega) [gw,dY]);(repeat rw [if_pos (by kernel_rfl)]);(try simp (maxSteps:=4000000) (disch:=omega) [gw,dY])
  refine bM [2,3] ?_
  exact cR
theorem ND{x:List Int}(cx:Cn x)(hx:x ≠ []):fP x=1+((oC x (x.length-1):Int):Rat)/(((lead x).natAbs:Int):Rat):=by
 have GB:=cM cx (List.length_pos_iff.2 hx)
 have h1:((lead x).natAbs:Int)≠0:=by omega
 have h2:(((lead x).natAbs:Int):Rat)≠0:=fun h=>h1 (Rat.intCast_eq_zero_iff.1 h)
 refine NC h1 ?_
 rw [Rat.intCast_add]
 have h3:=Rat.div_mul_cancel (a:=((oC x (x.length-1):Int):Rat)) h2
 generalize ((oC x (x.length-1):Int):Rat)/(((lead x).natAbs:Int):Rat)=w at *
 grind
end Go.Proofs.YtiobceocpabjdaaGreat
namespace Pm
theorem aae:∀(n:Nat) (f:Nat→Nat),(∀k,k≤n→f k<n) → ∃i j,i<j∧j≤n∧f i=f j
 | 0,f,h=>absurd (h 0 (Nat.le_refl _)) (by omega)
 | n+1,f,h=>by
  by_cases hx:∃i,i≤n∧f i=f (n+1)
  ·obtain⟨i,hi,e⟩:=hx
   exact⟨i,n+1,by omega,Nat.le_refl _,e⟩
  ·have qF:∀i,i≤n→f i≠f (n+1):=fun i hi e=>hx ⟨i,hi,e⟩
   have hm:=h (n+1) (Nat.le_refl _)
   obtain⟨i,j,T6,hj,e⟩:=aae n (fun k=>if f k=n then f (n+1)else f k) (fun k hk=>by
    have h1:=h k (by omega)
    have h2:=qF k hk
    show(if f k=n then f (n+1)else f k)<n
    split<;>omega)
   refine⟨i,j,T6,by omega,?_⟩
   have h1:=qF i (by omega)
   have h2:=qF j hj
   have e':(if f i=n then f (n+1)else f i)=(if f j=n then f (n+1)else f j):=e
   split at e'<;>split at e'<;>omega
def AJ(b:Nat):Nat→Nat→List Int
 | 0,_=>[]
 | n+1,k=>((k%b:Nat):Int)::AJ b n (k/b)
theorem tS(b:Nat):∀n k,(AJ b n k).length=n
 | 0,_=>rfl
 | n+1,k=>by rw [AJ,List.length_cons,tS b n]
theorem FK{b:Nat}(hb:0<b):∀n k,∀c∈AJ b n k,0≤c∧c<b
 | 0,_,c,h=>by cases h
 | n+1,k,c,h=>by
  rcases List.mem_cons.1 h with rfl | h
  ·have:=Nat.mod_lt k hb;omega
  ·exact FK hb n _ c h
theorem FL{b:Nat}(hb:0<b):∀n k m,k<b^n→m<b^n→AJ b n k=AJ b n m→k=m
 | 0,k,m,h1,h2,_=>by simp at h1 h2;omega
 | n+1,k,m,h1,h2,h=>by
  rw [AJ,AJ]at h
  injection h with h3 h4
  rw [Nat.pow_succ]at h1 h2
  have h5:=FL hb n (k/b) (m/b) ((Nat.div_lt_iff_lt_mul hb).2 h1) ((Nat.div_lt_iff_lt_mul hb).2 h2) h4
  have h6:=Nat.div_add_mod k b
  have h7:=Nat.div_add_mod m b
  rw [h5]at h6
  omega
def NF(R:Nat):List Nat→Nat
 | []=>0
 | x::l=>x+R*NF R l
theorem aaf{R:Nat}:∀l:List Nat,(∀x∈l,x<R)→NF R l<R^l.length
 | [],_=>by simp [NF]
 | x::l,h=>by
  have h1:=aaf l fun y hy=>h y (List.mem_cons_of_mem _ hy)
  have h2:=h x (List.mem_cons_self ..)
  rw [NF,List.length_cons,Nat.pow_succ]
  have h3:R*(NF R l+1)≤R*R^l.length:=Nat.mul_le_mul_left _ h1
  rw [Nat.mul_add]at h3
  rw [Nat.mul_comm (R^_)]
  omega
theorem QH{R:Nat}:∀l m:List Nat,l.length=m.length→(∀x∈l,x<R)→(∀x∈m,x<R)→NF R l=NF R m→l=m
 | [],[],_,_,_,_=>rfl
 | [],_::_,h,_,_,_=>by simp at h
 | _::_,[],h,_,_,_=>by simp at h
 | x::l,y::m,hl,h1,h2,e=>by
  rw [NF,NF]at e
  have hx:=h1 x (List.mem_cons_self ..)
  have hy:=h2 y (List.mem_cons_self ..)
  have e1:(x+R*NF R l)%R=(y+R*NF R m)%R:=by rw [e]
  rw [Nat.add_mul_mod_self_left,Nat.add_mul_mod_self_left,Nat.mod_eq_of_lt hx,Nat.mod_eq_of_lt hy]at e1
  subst e1
  have e2:R*NF R l=R*NF R m:=by omega
  have e3:=Nat.eq_of_mul_eq_mul_left (by omega) e2
  rw [QH l m (by simpa using hl) (fun z hz=>h1 z (List.mem_cons_of_mem _ hz)) (fun z hz=>h2 z (List.mem_cons_of_mem _ hz)) e3]
theorem pF{X Y:Nat}:∀(x y:List Int),(∀c∈x,c.natAbs≤X)→(∀i,(nth y i).natAbs≤Y) → ∀i,(nth (bJ x y) i).natAbs≤x.length*(X*Y)
 | [],y,_,_,i=>by
  rw [show bJ [] y = []from rfl,mK];simp
 | k::x,y,hx,hy,i=>by
  have hk:=hx k (List.mem_cons_self ..)
  have ih:=pF x y (fun c hc=>hx c (List.mem_cons_of_mem _ hc)) hy
  have h1:∀j,(nth y j*k).natAbs≤X*Y:=fun j=>by
   rw [Int.natAbs_mul,Nat.mul_comm]
   exact Nat.mul_le_mul hk (hy j)
  rw [List.length_cons,Nat.add_mul,Nat.one_mul]
  cases i with
  | zero =>
   rw [oW]
   have:=h1 0;omega
  | succ i =>
   rw [kS]
   have h2:=h1 (i+1)
   have h3:=ih i
   have h4:=Int.natAbs_add_le (nth y (i+1)*k) (nth (bJ x y) i)
   omega
theorem NG{A:Nat}{y:List Int}(h:∀c∈y,c.natAbs≤A)(i:Nat):(nth y i).natAbs≤A:=by
 rcases Nat.lt_or_ge i y.length with h1 | h1
 ·exact h _ (bR h1)
 ·rw [fY h1];exact Nat.zero_le _
namespace ZX
theorem FM(x y:ZX)(i:Nat):nth (x-y).l i=nth x.l i-nth y.l i:=by
 have h:x=(x-y)+y:=by grind
 have h2:nth x.l i=nth ((x-y)+y).l i:=by rw [←h]
 rw [show((x-y)+y).l=gB (x-y).l y.l from rfl,sY]at h2
 omega
theorem adp{a b v:ZX}(ha:a≠0)(hc:∀d,dv d a→dv d b→N d≤1)(h:dv a (v*b)):dv a v:=by
 obtain⟨g,hg⟩:=iJ _ a b (Nat.le_refl _)
 have h0:=hg.ne (.inl ha)
 have h1:=hc g hg.l hg.r
 have h2:=ZX.aF.1 h0
 obtain⟨k,hk,rfl⟩:=lM (show N g=1 by omega)
 obtain⟨c,uI,u',v',e⟩:=hg.uv
 rw [mQ]at e
 refine dv.IY (Int.mul_ne_zero uI hk) ?_
 rw [e,show(u'*a+v'*b)*v=(u'*v)*a+v'*(v*b)by grind]
 exact((dv.refl a).mul_left _).add (h.mul_left _)
theorem QI{l:List Int}{n:Nat}(h:l.length≤n):N (of l)≤n:=Nat.le_trans (bN l) h
theorem FN{x:ZX}{n:Nat}(hN:N x≤n+1)(h:∀i,i<n→nth x.l (i+1)=0):∃c:Int,x=K c:=by
 rcases Nat.lt_or_ge (N x) 2 with h1 | h1
 ·rcases Nat.eq_zero_or_pos (N x)with h2 | h2
  ·refine⟨0,?_⟩
   have:x=0:=Classical.byContradiction fun h0=>by have:=ZX.aF.1 h0;omega
   rw [this];rfl
  ·obtain⟨c,_,e⟩:=lM (show N x=1 by omega)
   exact⟨c,e⟩
 ·exfalso
  have h2:lead x.l≠0:=cM x.c (show 0<N x by omega)
  refine h2 ?_
  have h3:=h (N x-2) (by omega)
  rw [show N x-2+1=x.l.length-1 from by show N x-2+1=N x-1;omega]at h3
  exact h3
theorem FO(l:List Int)(i:Nat):nth (of l).l i=nth l i:=gS l i
theorem aja{a b:ZX}{s r l X:Nat}(ha:a≠0)(hb:b≠0)(hA:∀c∈a.l,c.natAbs≤2^s)(hB:∀c∈b.l,c.natAbs≤2^r)(hl:N a+N b≤2^l)(hc:∀d,dv d a→dv d b→N d≤1)(hX:(l+2)*(N a+N b)+s*N b+r*N a≤X) :
  ∃(u v:ZX) (c:Int),c≠0∧u*a+v*b=K c∧N u≤N b∧N v≤N a∧(∀c∈u.l,c.natAbs≤2^(X-s)) ∧ ∀c∈v.l,c.natAbs≤2^(X-r):=by
 have na:=ZX.aF.1 ha
 have nb:=ZX.aF.1 hb
 obtain⟨p,hp⟩:∃p,N a=p+1:=⟨N a-1,by omega⟩
 obtain⟨q,hq⟩:∃q,N b=q+1:=⟨N b-1,by omega⟩
 have hsX:s≤X:=by rw [hq,Nat.mul_add s]at hX;omega
 have hrX:r≤X:=by rw [hp,Nat.mul_add r]at hX;omega
 rcases Nat.lt_or_ge 2 (N a+N b)with hm | hm
 ·obtain⟨m,hmm⟩:∃m,p+q=m+1:=⟨p+q-1,by omega⟩
  obtain⟨U,hU⟩:∃U,U=2^(X-s):=⟨_,rfl⟩
  obtain⟨V,hV⟩:∃V,V=2^(X-r):=⟨_,rfl⟩
  have hUA:U*2^s=2^X:=by rw [hU,←Nat.pow_add];congr 1;omega
  have hVB:V*2^r=2^X:=by rw [hV,←Nat.pow_add];congr 1;omega
  rw [←hU,←hV]
  let P:=(U+1)^q
  have hPp:0<P:=Nat.pow_pos (Nat.succ_pos _)
  have hQp:0<(V+1)^p:=Nat.pow_pos (Nat.succ_pos _)
  let W:=(m+1)*2^X
  let uu:=fun k:Nat=>of (AJ (U+1) q (k%P))
  let vv:=fun k:Nat=>of (AJ (V+1) p (k/P))
  let L:=fun k:Nat=>uu k*a+vv k*b
  have acB:∀B n k,∀c∈AJ (B+1) n k,c.natAbs≤B:=fun B n k c hc=>by
   have:=FK (Nat.succ_pos B) _ _ c hc
   omega
  have hu:∀k,∀c∈(uu k).l,c.natAbs≤U:=fun k c hc=>acB _ _ _ c (oU _ _ hc)
  have hv:∀k,∀c∈(vv k).l,c.natAbs≤V:=fun k c hc=>acB _ _ _ c (oU _ _ hc)
  have hNu:∀k,N (uu k)≤q:=fun k=>QI (by rw [tS];exact Nat.le_refl _)
  have hNv:∀k,N (vv k)≤p:=fun k=>QI (by rw [tS];exact Nat.le_refl _)
  have hW:∀k i,(nth (L k).l i).natAbs≤W:=fun k i=>by
   have e:(L k).l=gB (bJ (uu k).l a.l) (bJ (vv k).l b.l):=rfl
   rw [e,sY]
   have h1:=pF (uu k).l a.l (hu k) (NG hA) i
   have h2:=pF (vv k).l b.l (hv k) (NG hB) i
   rw [hUA]at h1
   rw [hVB]at h2
   have h4:=Int.natAbs_add_le (nth (bJ (uu k).l a.l) i) (nth (bJ (vv k).l b.l) i)
   have h5:(uu k).l.length*2^X+(vv k).l.length*2^X≤W:=by
    rw [←Nat.add_mul]
    refine Nat.mul_le_mul_right _ ?_
    have h4:N (uu k)≤q:=hNu k
    have h5:N (vv k)≤p:=hNv k
    show N (uu k)+N (vv k)≤m+1
    omega
   omega
  let im:=fun k:Nat=>(List.range m).map fun i=>(nth (L k).l (i+1)+W).toNat
  have him:∀k,∀x∈im k,x<2*W+1:=fun k x hx=>by
   simp only [im,List.mem_map]at hx
   obtain⟨i,_,rfl⟩:=hx
   have:=hW k (i+1)
   omega
  have at9:(2*W+1)^m<P*(V+1)^p:=by
   have h1:2*W+1≤2^(X+l+2):=by
    have h2:(m+1)*2^X≤2^l*2^X:=Nat.mul_le_mul_right _ (by omega)
    have h3:2^(X+l+2)=2^l*2^X*4:=by rw [Nat.pow_add,Nat.pow_add,Nat.mul_comm (2^X)]
    have h4:1≤2^l*2^X:=Nat.mul_pos (Nat.two_pow_pos _) (Nat.two_pow_pos _)
    simp only [W]
    omega
   have h2:=Nat.pow_le_pow_left h1 m
   rw [←Nat.pow_mul]at h2
   have h3:2^((X-s)*q+(X-r)*p)≤P*(V+1)^p:=by
    rw [Nat.pow_add,Nat.pow_mul,Nat.pow_mul,←hU,←hV]
    exact Nat.mul_le_mul (Nat.pow_le_pow_left (Nat.le_succ _) _) (Nat.pow_le_pow_left (Nat.le_succ _) _)
   refine Nat.lt_of_le_of_lt h2 (Nat.lt_of_lt_of_le (Nat.pow_lt_pow_right (by decide) ?_) h3)
   rw [hp,hq]at hX
   rw [Nat.sub_mul,Nat.sub_mul]
   have e1:X*q+X*p=X*m+X:=by rw [←Nat.mul_add,show q+p=m+1 by omega,Nat.mul_add,Nat.mul_one]
   have e2:s*q≤X*q:=Nat.mul_le_mul_right _ hsX
   have e3:r*p≤X*p:=Nat.mul_le_mul_right _ hrX
   have e4:(X+l+2)*m=X*m+(l+2)*m:=by rw [Nat.add_assoc,Nat.add_mul]
   have e5:(l+2)*(p+1+(q+1))=(l+2)*m+(l+2)*3:=by rw [←Nat.mul_add];congr 1;omega
   have e6:s*(q+1)=s*q+s:=Nat.mul_succ _ _
   have e7:r*(p+1)=r*p+r:=Nat.mul_succ _ _
   omega
  obtain⟨n,hn⟩:∃n,P*(V+1)^p=n+1:=⟨P*(V+1)^p-1,by have:=Nat.mul_pos hPp hQp;omega⟩
  obtain⟨i,j,T6,hj,e⟩:=aae n (fun k=>NF (2*W+1) (im k)) (fun k hk=>by
   have h1:=aaf (im k) (him k)
   rw [show(im k).length=m by simp [im]]at h1
   show NF (2*W+1) (im k)<n
   omega)
  have e2:=QH (im i) (im j) (by simp [im]) (him i) (him j) e
  have e3:∀s,s<m→nth (L i).l (s+1)=nth (L j).l (s+1):=fun s hs=>by
   have h1:(im i)[s]? = (im j)[s]? := by rw [e2]
   simp only [im,List.getElem?_map,List.getElem?_range hs,Option.map_some]at h1
   injection h1 with h1
   have:=hW i (s+1)
   have:=hW j (s+1)
   omega
  have hNL:∀x y:ZX,N x≤q→N y≤p→N (x*a+y*b)≤m+1:=fun x y hx hy=>by
   have h1:N (x*a+y*b)≤max (N (x*a)) (N (y*b)):=yO _ _
   have h2:N (x*a)≤N x+N a-1:=oV (x:=x.l) (y:=a.l) na
   have h3:N (y*b)≤N y+N b-1:=oV (x:=y.l) (y:=b.l) nb
   omega
  have QR:N (uu i-uu j)≤q:=by
   have h1:N (uu i-uu j)≤max (N (uu i)) (N (uu j)):=sW _ _
   have:=hNu i;have:=hNu j;omega
  have hv':N (vv i-vv j)≤p:=by
   have h1:N (vv i-vv j)≤max (N (vv i)) (N (vv j)):=sW _ _
   have:=hNv i;have:=hNv j;omega
  have eL:(uu i-uu j)*a+(vv i-vv j)*b=L i-L j:=by simp only [L];grind
  obtain⟨c,UH⟩:=FN (x:=(uu i-uu j)*a+(vv i-vv j)*b) (n:=m) (hNL _ _ QR hv') (fun s hs=>by
   rw [eL,FM,e3 s hs];omega)
  have mV:∀(B n k k':Nat),∀c∈(of (AJ (B+1) n k)-of (AJ (B+1) n k')).l,c.natAbs≤B:=fun B n k k' c hc=>by
   obtain⟨s,hs,rfl⟩:=List.getElem_of_mem hc
   rw [←bZ hs,FM,FO,FO]
   have h3:∀k,0≤nth (AJ (B+1) n k) s∧nth (AJ (B+1) n k) s<((B+1:Nat):Int):=fun k=>by
    rcases Nat.lt_or_ge s (AJ (B+1) n k).length with h4 | h4
    ·exact FK (Nat.succ_pos B) _ _ _ (bR h4)
    ·rw [fY h4];exact⟨by decide,by show(0:Int)<_;omega⟩
   have:=h3 k
   have:=h3 k'
   omega
  refine⟨uu i-uu j,vv i-vv j,c,fun h0=>?_,UH,by omega,by omega,mV _ _ _ _,mV _ _ _ _⟩
  rw [h0,show K 0=(0:ZX)from rfl]at UH
  have hvz:vv i-vv j=0:=Classical.byContradiction fun qF=>by
   have h1:dv a (vv i-vv j):=adp ha hc (b:=b) ⟨1,by decide, -(uu i-uu j),by
    show(1:ZX)*_=_
    have:(vv i-vv j)*b = -((uu i-uu j)*a):=by grind
    rw [this];grind⟩
   have:=h1.pB qF
   omega
  have huz:uu i-uu j=0:=Classical.byContradiction fun qF=>by
   have h1:(uu i-uu j)*a=0:=by rw [hvz]at UH;grind
   exact o9 qF ha h1
  have hd:∀(B n k k':Nat),of (AJ (B+1) n k)-of (AJ (B+1) n k')=0→AJ (B+1) n k=AJ (B+1) n k':=fun B n k k' h0=>by
   refine List.ext_getElem (by rw [tS,tS]) fun s hs F7=>?_
   have h3:=FM (of (AJ (B+1) n k)) (of (AJ (B+1) n k')) s
   rw [h0,show nth (0:ZX).l s=0 from mK s,FO,FO]at h3
   rw [←bZ hs,←bZ F7]
   omega
  have lt2:∀k,k≤n→k/P<(V+1)^p:=fun k hk=>(Nat.div_lt_iff_lt_mul hPp).2 (by rw [Nat.mul_comm];omega)
  have d1:i%P=j%P:=FL (Nat.succ_pos U) q _ _ (Nat.mod_lt i hPp) (Nat.mod_lt j hPp) (hd _ _ _ _ huz)
  have d2:i/P=j/P:=FL (Nat.succ_pos V) p _ _ (lt2 i (by omega)) (lt2 j hj) (hd _ _ _ _ hvz)
  have h6:=Nat.div_add_mod i P
  have h7:=Nat.div_add_mod j P
  rw [d1,d2]at h6
  omega
 ·obtain⟨c,uI,rfl⟩:=lM (show N a=1 by omega)
  refine⟨1,0,c,uI,by grind,by rw [CQ];omega,by rw [X1];omega,fun x hx=>?_,fun x hx=>by cases hx⟩
  have h1:(1:ZX).l = [1]:=rfl
  rw [h1]at hx
  simp at hx;subst hx;exact Nat.two_pow_pos _
end ZX
end Pm
namespace Pm
theorem pG(a b:Nat):(2:Rat)^(a+b)=2^a*2^b:=by
 induction b with
 | zero=>rw [Nat.add_zero,Rat.pow_zero,Rat.mul_one]
 | succ b ih=>rw [←Nat.add_assoc,Rat.pow_succ,Rat.pow_succ,ih];grind
theorem kY(a:Nat):(0:Rat)<2^a:=Rat.pow_pos (by decide)
theorem uU:∀a:Nat,(1:Rat)≤2^a
 | 0=>by simp
 | a+1=>by
  have:=uU a
  rw [Rat.pow_succ];grind
theorem QJ{a b:Nat}(h:a≤b):(2:Rat)^a≤2^b:=by
 obtain⟨c,rfl⟩:∃c,b=a+c:=⟨b-a,by omega⟩
 rw [pG]
 have h1:=uU c
 have h2:=kY a
 have h3:=Rat.mul_le_mul_of_nonneg_left h1 (Rat.le_of_lt h2)
 grind
theorem FP:∀a:Nat,(((2^a:Nat):Int):Rat)=2^a
 | 0=>by simp
 | a+1=>by
  rw [Nat.pow_succ,Rat.pow_succ,←FP a,Int.natCast_mul,Rat.intCast_mul];rfl
theorem JO{c:Int}{s:Nat}(h:c.natAbs≤2^s):Ab (c:Rat) (2^s):=by
 have h1:=FP s
 have h2:c≤((2^s:Nat):Int):=by omega
 have h3 : -((2^s:Nat):Int)≤c:=by omega
 have h4:=Rat.intCast_le_intCast.2 h2
 have h5:=Rat.intCast_le_intCast.2 h3
 rw [Rat.intCast_neg]at h5
 rw [h1]at h4 h5
 exact⟨h5,h4⟩
theorem NH(s β:Nat):∀k,AH (2^s) (2^β) k=2^(s+k*(β+2))
 | 0=>by simp [AH]
 | k+1=>by
  rw [AH,NH s β k,show s+(k+1)*(β+2)=s+k*(β+2)+β+1+1 by rw [Nat.add_mul];omega,Rat.pow_succ,Rat.pow_succ,pG _ β]
  grind
namespace ZX
theorem apu{a:ZX}{s n β:Nat}(h:∀c∈a.l,c.natAbs≤2^s)(hN:N a≤n){t:Rat}(ht:Ab t (2^β)):Ab (e t a) (2^(s+n*(β+2))):=by
 have h1:=JC (S:=2^s) (B:=2^β) (t:=t) (Rat.le_of_lt (kY s)) (uU β) ht a.l fun c hc=>JO (h c hc)
 rw [NH]at h1
 refine h1.mono (QJ ?_)
 have:a.l.length*(β+2)≤n*(β+2):=Nat.mul_le_mul_right _ hN
 omega
theorem afB{a:ZX}{s n β:Nat}(h:∀c∈a.l,c.natAbs≤2^s)(hN:N a≤n){r t:Rat}(hr:Ab r (2^β))(ht:Ab t (2^β)):Ab (dd r t a.l) (2^(s+n*(β+2)))∧Ab (cc r t a.l) (2^(s+n*(β+2))):=by
 have h1:=CV (S:=2^s) (B:=2^β) (s:=r) (t:=t) (Rat.le_of_lt (kY s)) (uU β) hr ht a.l fun c hc=>JO (h c hc)
 have h2:=ZV (S:=2^s) (B:=2^β) (s:=r) (t:=t) (Rat.le_of_lt (kY s)) (uU β) hr ht a.l fun c hc=>JO (h c hc)
 rw [NH]at h1 h2
 have h3:a.l.length*(β+2)≤n*(β+2):=Nat.mul_le_mul_right _ hN
 exact⟨h1.mono (QJ (by omega)),h2.mono (QJ (by omega))⟩
def sk(s n l β:Nat):Nat:=n*(s+2+l)+n*(β+2)+1
def sx(a b:ZX)(s r l:Nat):Nat:=(l+2)*(N a+N b)+s*N b+r*N a
theorem aua{a b:ZX}{s r l β:Nat}(ha:a≠0)(hb:b≠0)(hA:∀c∈a.l,c.natAbs≤2^s)(hB:∀c∈b.l,c.natAbs≤2^r)(hl:N a+N b≤2^l)(hc:∀d,dv d a→dv d b→N d≤1)
  {t ε η:Rat} (ht:Ab t (2^β)) (hε:ε*2^(sx a b s r l-s+N b*(β+2)+1)≤1) (hη:η*2^(sx a b s r l-r+N a*(β+2)+1)≤1):j5 ε (e t a)∨j5 η (e t b):=by
 obtain⟨u,v,c,uI,he,hNu,hNv,hu,hv⟩:=aja ha hb hA hB hl hc (Nat.le_refl _)
 have h1:=apu (β:=β) hu hNu ht
 have h2:=apu (β:=β) hv hNv ht
 have h3:e t u*e t a+e t v*e t b=(c:Rat):=by rw [←mS,←mS,←afv,he,UI]
 have h4:=xA uI
 rw [show(l+2)*(N a+N b)+s*N b+r*N a=sx a b s r l from rfl]at h1 h2
 rw [pG _ 1]at hε hη
 have hM:=kY (sx a b s r l-s+N b*(β+2))
 have hM2:=kY (sx a b s r l-r+N a*(β+2))
 generalize (2:Rat)^(sx a b s r l-s+N b*(β+2))=M at *
 generalize (2:Rat)^(sx a b s r l-r+N a*(β+2))=M2 at *
 refine Classical.byContradiction fun apv=>?_
 have e1:(2:Rat)^1=2:=by rw [Rat.pow_succ,Rat.pow_zero];grind
 rw [e1]at hε hη
 have key:∀x y E M:Rat,0<M→Ab y M→E*(M*2)≤1→¬j5 E x → ∃δ:Rat,δ<1/2∧Ab (y*x) δ:=fun x y E M hM hy hE hx=>by
  have g1:=w7 hx
  obtain⟨m,g2,g3,g4⟩:∃m:Rat,m<E∧x≤m ∧ -x≤m:=by
   by_cases h:x ≤ -x
   ·exact⟨-x,by grind,h,Rat.le_refl⟩
   ·exact⟨x,by grind,Rat.le_refl,by grind⟩
  have g5:=hy.mul (show Ab x m from⟨by grind,g3⟩)
  refine⟨_,?_,g5⟩
  have g6:=Rat.mul_lt_mul_of_pos_left g2 hM
  grind
 obtain⟨d1,p1,p2,p3⟩:=key _ _ _ _ hM h1 hε fun h=>apv (.inl h)
 obtain⟨d2,p4,p5,p6⟩:=key _ _ _ _ hM2 h2 hη fun h=>apv (.inr h)
 rcases h4 with h4 | h4<;>grind
theorem afC{a b:ZX}{s n l β m:Nat}(hn:N a+N b≤n)(hm:m≤n):sx a b s s l-s+m*(β+2)+1≤sk s n l β:=by
 unfold sx sk
 have h1:(l+2)*(N a+N b)+s*N b+s*N a=(s+2+l)*(N a+N b):=by grind
 have h2:(s+2+l)*(N a+N b)≤(s+2+l)*n:=Nat.mul_le_mul_left _ hn
 have h3:m*(β+2)≤n*(β+2):=Nat.mul_le_mul_right _ hm
 rw [h1,Nat.mul_comm n]
 omega
theorem afD{ε:Rat}{i j:Nat}(h:ε*2^j≤1)(T6:i≤j):ε*2^i≤1:=by
 have h1:=QJ T6
 have h2:=kY i
 by_cases h0:0≤ε
 ·have:=Rat.mul_le_mul_of_nonneg_left h1 h0;grind
 ·have:=Rat.mul_lt_mul_of_pos_right (show ε<0 by grind) h2;grind
theorem sep{a b:ZX}{s n l β:Nat}(ha:a≠0)(hb:b≠0)(hA:∀c∈a.l,c.natAbs≤2^s)(hB:∀c∈b.l,c.natAbs≤2^s)(hn:N a+N b≤n)(hl:n≤2^l)(hc:∀d,dv d a→dv d b→N d≤1)
  {t ε:Rat} (ht:Ab t (2^β)) (hε:ε*2^sk s n l β≤1):j5 ε (e t a)∨j5 ε (e t b):=
 aua (l:=l) ha hb hA hB (by omega) hc ht (afD hε (afC hn (by omega))) (afD hε (afC hn (by omega)))
theorem ajb{f:ZX}{s n l:Nat}(h:∀c∈f.l,c.natAbs≤2^s)(hN:N f≤n)(hl:n≤2^l):∀c∈(b6 f).l,c.natAbs≤2^(s+l):=fun c hc=>by
 have h1:=oU _ _ hc
 simp only [uO,List.mem_map,List.mem_range]at h1
 obtain⟨i,hi,rfl⟩:=h1
 rw [Int.natAbs_mul,Nat.pow_add]
 have h2:=NG h (i+1)
 have h3:N f=f.l.length:=rfl
 exact Nat.mul_le_mul h2 (by rw [Int.natAbs_natCast];omega)
theorem adq{x y z:Rat}(h:(x<y∧y<z)∨(y<x∧z<y)):(if x≠0∧cZ z≠cZ x then 1 else 0:Nat)=(if x≠0∧cZ y≠cZ x then 1 else 0)+(if y≠0∧cZ z≠cZ y then 1 else 0):=by
 rcases dB x with ⟨h1,h2⟩ | ⟨h1,h2⟩ | ⟨h1,h2⟩<;>rcases dB y with ⟨h3,h4⟩ | ⟨h3,h4⟩ | ⟨h3,h4⟩<;>rcases dB z with ⟨h5,h6⟩ | ⟨h5,h6⟩ | ⟨h5,h6⟩ <;>
  rw [h2,h4,h6]<;>first
   | (exfalso;rcases h with ⟨h7,h8⟩ | ⟨h7,h8⟩<;>grind)
   | (have n1:(x≠0)=True:=eq_true (by grind)
      have n2:(y≠0)=True:=eq_true (by grind)
      simp only [n1,n2];decide)
   | (have n1:(x≠0)=False:=eq_false (by grind)
      have n2:(y≠0)=True:=eq_true (by grind)
      simp only [n1,n2];decide)
   | (have n1:(x≠0)=True:=eq_true (by grind)
      have n2:(y≠0)=False:=eq_false (by grind)
      simp only [n1,n2];decide)
def NI(f:ZX)(t:Rat):Int:=if e t f=0 then cZ (e t (b6 f))else cZ (e t f)
theorem aag{x y:Rat}{σ:Int}(h:(σ=1∧x<y)∨(σ = -1∧y<x)):(if y=0 then σ else cZ y)=(if (if x≠0∧cZ y≠cZ x then 1 else 0:Nat)=0 then 1 else -1)*(if x=0 then σ else cZ x):=by
 rcases dB x with ⟨h1,h2⟩ | ⟨h1,h2⟩ | ⟨h1,h2⟩<;>rcases dB y with ⟨h3,h4⟩ | ⟨h3,h4⟩ | ⟨h3,h4⟩<;>rw [h2,h4]<;>first
   | (exfalso;rcases h with ⟨h7,h8⟩ | ⟨h7,h8⟩<;>grind)
   | (have n1:(x=0)=False:=eq_false (by grind)
      have n2:(y=0)=False:=eq_false (by grind)
      simp only [n1,n2,ne_eq,not_false_eq_true,true_and,if_false];decide)
   | (have n1:(x=0)=True:=eq_true (by grind)
      have n2:(y=0)=False:=eq_false (by grind)
      have:σ=1∨σ = -1:=by omega
      rcases this with rfl | rfl<;>first
        | (simp only [n1,n2,ne_eq,not_true_eq_false,false_and,if_false,if_true];decide)
        | (exfalso;rcases h with ⟨h7,h8⟩ | ⟨h7,h8⟩<;>grind))
   | (have n1:(x=0)=False:=eq_false (by grind)
      have n2:(y=0)=True:=eq_true (by grind)
      have:σ=1∨σ = -1:=by omega
      rcases this with rfl | rfl<;>first
        | (simp only [n1,n2,ne_eq,not_false_eq_true,true_and,if_false,if_true];decide)
        | (exfalso;rcases h with ⟨h7,h8⟩ | ⟨h7,h8⟩<;>grind))
structure aub(f:ZX)(B δ:Rat):Prop where
 par:∀s t,Ab s B→Ab t B→s<t→t-s≤δ→NI f t=(if ind f s t=0 then 1 else -1)*NI f s
def lk(s n l β:Nat):Nat:=sk (s+l) (n+n) (l+1) β+(s+l+n*(β+2))+2
theorem C6{L:List ZX}{f:ZX}(G:tP L f){s n l β:Nat}(hf:f≠0)(hA:∀c∈f.l,c.natAbs≤2^s)(hn:N f≤n)(hl:n≤2^l)(hc:∀d,dv d f→dv d (b6 f)→N d≤1){δ:Rat}(hδ:δ*2^lk s n l β≤1):Lcl L f (2^β) δ∧aub f (2^β) δ:=by
 have hA':∀c∈f.l,c.natAbs≤2^(s+l):=fun c hc=>Nat.le_trans (hA c hc) (Nat.pow_le_pow_right (by decide) (by omega))
 have hD:=ajb hA hn hl
 have hND:=n4 f
 have main:∀lo hi,Ab lo (2^β)→Ab hi (2^β)→lo<hi→hi-lo≤δ→vt L lo=vt L hi+ind f lo hi∧(e lo f=0→e hi f≠0)∧NI f hi=(if ind f lo hi=0 then 1 else -1)*NI f lo:=fun lo hi alo ahi hlh hw=>by
  have hδ0:0<δ:=by grind
  rw [lk,pG,pG]at hδ
  have hQ:=kY (s+l+n*(β+2))
  have hK:=kY (sk (s+l) (n+n) (l+1) β)
  generalize hQe:(2:Rat)^(s+l+n*(β+2))=Q at *
  generalize hKe:(2:Rat)^sk (s+l) (n+n) (l+1) β=κ at *
  have h22:(2:Rat)^2=4:=by rw [Rat.pow_succ,Rat.pow_succ,Rat.pow_zero];grind
  rw [h22]at hδ
  have hε:(1/κ)*κ=1:=Rat.div_mul_cancel (Rat.ne_of_gt hK)
  have hε0:0<1/κ:=(Rat.lt_div_iff hK).2 (by grind)
  generalize 1/κ=ε at *
  have hδQ:4*(δ*Q)≤ε:=by
   have h1:δ*(κ*Q*4)=(4*(δ*Q))*κ:=by grind
   rw [h1,←hε]at hδ
   exact Rat.le_of_mul_le_mul_right hδ hK
  have hin:∀x,lo≤x→x≤hi→Ab x (2^β):=fun x h1 h2=>gE alo ahi h1 h2
  by_cases hd0:b6 f=0
  ·-- a constant
   have hN1:N f=1:=by
    have h0:=ZX.aF.1 hf
    rcases Nat.lt_or_ge (N f) 2 with h1 | h1
    ·omega
    ·exact absurd hd0 (EW h1)
   obtain⟨c,uI,rfl⟩:=lM hN1
   have hcv:∀x,cZ (e x (K c))=cZ (c:Rat):=fun x=>by rw [UI]
   have h1:=G.const hlh (σ:=cZ (c:Rat)) (.inr (hcv lo)) (fun x _ _=>hcv x)
   have h2:ind (K c) lo hi=0:=if_neg fun h=>h.2 (by rw [hcv,hcv])
   have apw:(c:Rat)≠0:=fun h=>uI (by exact_mod_cast h)
   have hz:∀x,e x (K c)≠0:=fun x=>by rw [UI];exact apw
   exact⟨by rw [h1,h2];omega,fun h=>by rw [UI]at h;exact absurd h apw,by rw [h2,if_pos rfl,Int.one_mul,NI,NI,if_neg (hz _),if_neg (hz _),hcv,hcv]⟩
  have hb:=sep hf hd0 hA' hD (show N f+N (b6 f)≤n+n by omega) (show n+n≤2^(l+1)by rw [Nat.pow_succ];omega) hc alo (ε:=ε) (by rw [hKe,hε];exact Rat.le_refl)
  have dsz:∀x y,lo≤x→x≤hi→lo≤y→y≤hi→Ab (dd x y f.l) Q∧Ab (cc x y f.l) Q∧Ab (dd x y (b6 f).l) Q:=fun x y h1 h2 h3 h4=>by
   have g1:=afB hA' hn (hin x h1 h2) (hin y h3 h4)
   have g2:=afB hD (show N (b6 f)≤n by omega) (hin x h1 h2) (hin y h3 h4)
   rw [hQe]at g1 g2
   exact⟨g1.1,g1.2,g2.1⟩
  have awT:0≤δ*Q:=Rat.mul_nonneg (Rat.le_of_lt hδ0) (Rat.le_of_lt hQ)
  have small:∀h x,0≤h→h≤δ→Ab x Q→Ab (h*x) (δ*Q):=fun h x h1 h2 h3=>Ab.mul ⟨by grind,h2⟩ h3
  rcases hb with hb | hb
  ·-- one sign
   have tZ:∀x,lo≤x→x≤hi→cZ (e x f)=cZ (e lo f)∧cZ (e lo f)≠0:=fun x h1 h2=>by
    refine fL hb hε0 fun h=>?_
    have h3:=mB lo x f.l
    have h4:=small (x-lo) _ (by grind) (by grind) (dsz lo x Rat.le_refl (by grind) h1 h2).1
    rw [←h3]at h4
    obtain⟨p1,p2⟩:=h4
    have h5:e x f-e lo f=qv x f.l-qv lo f.l:=rfl
    rw [h5]at h
    rcases h with h | h<;>grind
   have h1:=G.const hlh (σ:=cZ (e lo f)) (.inr rfl) (fun x h1 h2=>(tZ x (by grind) h2).1)
   have h2:ind f lo hi=0:=if_neg fun h=>h.2 (tZ hi (by grind) Rat.le_refl).1
   have hz:∀x,lo≤x→x≤hi→e x f≠0:=fun x h1 h2 h=>by
    obtain⟨g1,g2⟩:=tZ x h1 h2
    rw [h,mT]at g1
    exact g2 g1.symm
   exact⟨by rw [h1,h2];omega,fun h=>absurd h (hz lo Rat.le_refl (by grind)),by rw [h2,if_pos rfl,Int.one_mul,NI,NI,if_neg (hz _ (by grind) Rat.le_refl),if_neg (hz _ Rat.le_refl (by grind)),(tZ hi (by grind) Rat.le_refl).1]⟩
  ·-- rising or arq
   have mono:∀x y,lo≤x→x<y→y≤hi→cZ (e y f-e x f)=cZ (e lo (b6 f))∧cZ (e lo (b6 f))≠0:=fun x y h1 h2 h3=>by
    have g1:=mB x y f.l
    have g2:=MY x y f.l
    have g3:dd x x f.l=e x (b6 f):=(afw x f).symm
    have g4:=mB lo x (b6 f).l
    have b1:=small (y-x) _ (by grind) (by grind) (dsz x y h1 (by grind) (by grind) h3).2.1
    have b2:=small (x-lo) _ (by grind) (by grind) (dsz lo x Rat.le_refl (by grind) h1 (by grind)).2.2
    rw [←g2]at b1
    rw [←g4]at b2
    have h5:e x (b6 f)-e lo (b6 f)=qv x (b6 f).l-qv lo (b6 f).l:=rfl
    have h6:=fL (y:=dd x y f.l) hb hε0 fun h=>by
     obtain⟨p1,p2⟩:=b1
     obtain⟨p3,p4⟩:=b2
     rcases h with h | h<;>grind
    have h7:e y f-e x f=qv y f.l-qv x f.l:=rfl
    rw [h7,g1,w8,eI (show 0<y-x by grind),Int.one_mul]
    exact h6
   have QK:∀x y,lo≤x→x<y→y≤hi→(cZ (e lo (b6 f))=1∧e x f<e y f)∨(cZ (e lo (b6 f)) = -1∧e y f<e x f):=fun x y h1 h2 h3=>by
    obtain⟨g1,g2⟩:=mono x y h1 h2 h3
    rcases dB (e y f-e x f)with ⟨g3,g4⟩ | ⟨g3,g4⟩ | ⟨g3,g4⟩
    ·exact .inr ⟨by omega,by grind⟩
    ·omega
    ·exact .inl ⟨by omega,by grind⟩
   have dsg:∀x,lo≤x→x≤hi→cZ (e x (b6 f))=cZ (e lo (b6 f)):=fun x h1 h2=>by
    have g4:=mB lo x (b6 f).l
    have b2:=small (x-lo) _ (by grind) (by grind) (dsz lo x Rat.le_refl (by grind) h1 h2).2.2
    rw [←g4]at b2
    have h5:e x (b6 f)-e lo (b6 f)=qv x (b6 f).l-qv lo (b6 f).l:=rfl
    exact(fL hb hε0 fun h=>by
     obtain⟨p3,p4⟩:=b2
     rcases h with h | h<;>grind).1
   refine⟨?_,fun h=>?_,?_⟩
   ·refine G.ZZ (P:=fun x y=>lo≤x→y≤hi→vt L x=vt L y+ind f x y) (fun x y z vC hyz p1 p2 hx hz=>?_) (fun B δ' hL x y hx hy vC hd h1 h2=>hL.turns x y hx hy vC hd) hlh Rat.le_refl Rat.le_refl
    rw [p1 hx (by grind),p2 (by grind) hz]
    have h1:=QK x y hx vC (by grind)
    have h2:=QK y z (by grind) hyz hz
    have h3:=adq (x:=e x f) (y:=e y f) (z:=e z f) (by
     rcases h1 with ⟨q1,q2⟩ | ⟨q1,q2⟩<;>rcases h2 with ⟨q3,q4⟩ | ⟨q3,q4⟩
     ·exact .inl ⟨q2,q4⟩
     ·omega
     ·omega
     ·exact .inr ⟨q2,q4⟩)
    have h4:ind f x z=ind f x y+ind f y z:=h3
    omega
   ·rcases QK lo hi Rat.le_refl hlh Rat.le_refl with ⟨q1,q2⟩ | ⟨q1,q2⟩<;>grind
   ·have h1:=aag (QK lo hi Rat.le_refl hlh Rat.le_refl)
    unfold NI ind
    rw [dsg hi (by grind) Rat.le_refl]
    exact h1
 exact⟨⟨fun x y hx hy vC hd=>(main x y hx hy vC hd).1,fun x y hx hy vC hd=>(main x y hx hy vC hd).2.1⟩,⟨fun x y hx hy vC hd=>(main x y hx hy vC hd).2.2⟩⟩
end ZX
end Pm
