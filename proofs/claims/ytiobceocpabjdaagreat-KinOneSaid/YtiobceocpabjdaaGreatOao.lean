import Derived.Test.YtiobceocpabjdaaGreatOam
import Derived.Test.YtiobceocpabjdaaGreatOan
set_option linter.unusedSimpArgs false
set_option linter.unusedVariables false
namespace Pm
open Go Go.RowKit
def aar(E:Env)(o:Oper)(K:PS→Prop)(σ:PS):Prop:=
 match o.op with
 | .build t ⟨[(0,x)]⟩=>E.ty t = .struct [(0,1,false)] (E.ty t).zero∧(E.ty t).zero.length=1∧cE (aP σ.f x)=some [aP σ.f x]∧iT σ.rows (aP σ.f x)∧K (σ.put o.dst (.ag [aP σ.f x]))
 | _=>False
section
variable {E:Env} {w0:World} {S0:dZ} {m:Nat} {G:Gs}
theorem TK{o:Oper}{a:Act}{w:World}{σ:PS}{K:PS→Prop}(h:aar E o K σ)(hR:Rel w0 S0 m G σ a w)(hd:∀t,o.dst=some t→t<m)
  {K':Act→World→Prop} {Q:Exit→Act→World→Prop} (hK:∀σ' a' w',K σ'→Rel w0 S0 m G σ' a' w'→K' a' w'):o.wp E.P a w K' Q:=by
 obtain⟨⟨c,rfl,hr,gB,hI,hf,hG⟩,hn,fK⟩:=hR
 have hρ:=mQ hf
 obtain⟨dst,op,type,pos,after,guard⟩:=o
 simp only at hd
 unfold aar at h
 simp only at h
 split at h
 ·rename_i t x
  obtain⟨hE,H6,hc,ho,hk⟩:=h
  rw [←hr]at ho
  obtain⟨g1,g2⟩:=nE (hρ x) hc (fun q hq=>by simp at hq;subst hq;exact ho)
  have ht:=E.ok t
  rw [hE]at ht
  obtain⟨⟨fields,hu,ha⟩,hz⟩:=ht
  obtain⟨i,zv,hi,hzv,_,QO,_⟩:=hz.ok
  have EN:zv.cells.size=1:=by
   have:(zv.cells.toList.map jO).length=1:=by rw [QO];exact H6
   simpa using this
  have BL:(a.eval x).cells.size=1:=by have:=g1.length;simpa using this.symm
  have FO:=pZ 0 (a.eval x).cells.toList 0 zv.cells (by simp;omega)
  have hl:((a.eval x).cells.toList.zipIdx 0).foldl (fun cs (x:Value × Nat)=>cs.setIfInBounds (0+x.2) x.1) zv.cells=(a.eval x).cells:=by
   apply Array.toList_inj.1
   rw [FO]
   have h1:(a.eval x).cells.toList.length=1:=by simpa using BL
   have h2:zv.cells.toList.length=1:=by simpa using EN
   rw [h1]
   simp [List.drop_of_length_le,h2]
  have i3:(execOp a.eval { dst:=dst,op:=.build t ⟨[(0,x)]⟩,type:=type,pos:=pos,after:=after,guard:=guard }).run E.P c.w = .ok (.value (.agg (a.eval x).cells)) c.w:=by
   have akN:Instr.fill (fun x=>(([(0,1,false)]:List (Nat × Nat × Bool)).toArray.map fun x=>(x.1,x.2.1))[x]?) zv.cells [(0,a.eval x)]=some (a.eval x).cells:=by
    have hpl:(([(0,1,false)]:List (Nat × Nat × Bool)).toArray.map fun x=>(x.1,x.2.1))[0]? = some (0,1):=by simp
    simp only [Instr.fill,hpl]
    rw [if_neg (by simp [BL,EN])]
    have hz3:(a.eval x).cells.toList.zipIdx=(a.eval x).cells.zipIdx.toList:=by simp
    have h5:(a.eval x).cells.zipIdx.foldl (fun cs (x:Value × Nat)=>cs.setIfInBounds (0+x.2) x.1) zv.cells=(a.eval x).cells:=by
     rw [←Array.foldl_toList,←hz3];exact hl
    simp only [h5]
   simp only [execOp,Instr.build,zeroValue,typeInfo,program,Sem.run_bind,Sem.run,hi,hzv,Sem.run_pure,Result.andThen_ok,run_underlying hu,run_places ha]
   simp at akN
   simp [akN]
  unfold Oper.wp
  rw [i3]
  refine hK _ _ _ hk ?_
  exact sU hf hG hn fK (tK.refl c) hI (show aG c (.ag [aP σ.f x]) (.agg (a.eval x).cells)from⟨(a.eval x).cells.toList,by simp,g1⟩) hd rfl (by simp [PS.put,hr]) gB
 ·exact h.elim
end
theorem W.aoB{E:Env}{n:Nat}{tl:Nat→Nat}{Q:PX→PS→Prop}{σ:PS}{id:Nat}{ops:List Oper}{y:Code}(i:Nat){o o2:Oper}(ho:ops=ops.take i++o::o2::ops.drop (i+2))(hg:o.guard=none)(qZ:o2.guard=none)
  (h:∀K:PS→Prop,(∀σ,W E n tl y Q σ→K σ)→go (aM E ops (ops.take i) (fun σ=>FF E o (fun σ=>aar E o2 (aM E ops (ops.drop (i+2)) K) σ) σ) σ)):W E n tl (.seq (.region id ops.toArray false) y) Q σ:=by
 refine W.seq ?_
 intro gO w0 S0 G a w Q' hR hQ
 simp only [eY,rR,Bool.and_eq_true]at gO
 have hd:∀o∈ops,∀t,o.dst=some t→t<n:=fun o ho t ht=>by
  have:=Array.all_eq_true_iff_forall_mem.1 gO.1 o (by simpa using ho)
  simpa [ht]using this
 refine wp_region_list ?_
 show wpList E.P ops.toArray Q' ops a w
 have h1:=h (fun σ=>W E n tl y Q σ) fun _ h=>h
 have pG:o∈ops:=by rw [ho];simp
 have ave:o2∈ops:=by rw [ho];simp
 have:=oI (E:=E) (w0:=w0) (S0:=S0) (m:=n) (G:=G) (ops:=ops.toArray) (Q:=Q') (l2:=o::o2::ops.drop (i+2)) (K:=fun σ=>FF E o (fun σ=>aar E o2 (aM E ops (ops.drop (i+2)) (fun σ=>W E n tl y Q σ)) σ) σ) (fun σ' a' w' hl lH=>by
  unfold wpList
  rw [if_pos (by simp [Region.wanted,hg])]
  refine .inl (u4 hl lH (hd o pG) fun σ2 a2 w2 hk hR2=>?_)
  unfold wpList
  rw [if_pos (by simp [Region.wanted,qZ])]
  refine .inl (TK hk hR2 (hd o2 ave) fun σ3 a3 w3 hk3 hR3=>?_)
  exact iG (E:=E) (ops:=ops.toArray) (fun σ4 a4 w4 hk4 hR4=>hQ .normal σ4 a4 w4 hk4 hR4) _ σ3 a3 w3 (fun o ho=>hd o (List.mem_of_mem_drop ho)) hk3 hR3) (ops.take i) σ a w (fun o ho=>hd o (List.mem_of_mem_take ho)) h1 hR
 rwa [←ho]at this
@[simp] theorem axr{E:Env}{K:PS→Prop}{f:Nat→PV}{rows:Rows}{clk:Nat}{d:Option Tmp}{ty:TypeId}{pos:String}{af:Array Edge}{t:TypeId}{x:Operand} :
  aar E ⟨d, .build t ⟨[(0,x)]⟩,ty,pos,af,none⟩ K ⟨f,rows,clk⟩=aH (E.ty t = .struct [(0,1,false)] (E.ty t).zero∧(E.ty t).zero.length=1) (fY (cE (aP f x)) fun l=>aH (l = [aP f x]∧iH rows [aP f x]) (K ⟨put f d (.ag [aP f x]),rows,clk⟩)):=by
 simp only [aar,aH,fY,iH,PS.put]
 apply propext
 constructor
 ·rintro⟨h1,h2,h3,h4,h5⟩;exact⟨⟨h1,h2⟩,_,h3,⟨rfl,by simpa using h4⟩,h5⟩
 ·rintro⟨⟨h1,h2⟩,l,h3,⟨rfl,h4⟩,h5⟩;exact⟨h1,h2,h3,by simpa using h4,h5⟩
end Pm
namespace Go.Proofs.YtiobceocpabjdaaGreat
open Go Pm
theorem BZ.z{h n:Nat}{a:ZX}(b:BZ h n a)(hh:h<1099511627776):∀c∈a.l,Z c:=fun c hc=>Nat.lt_of_le_of_lt (b.sz c hc) hh
theorem WU{h n:Nat}{a:ZX}(b:BZ h n a)(hh:h<1099511627776)(hn:n<1099511627776):aE env.P 100 [PI a.l] (Po a.l):=VZ a.l (b.z hh) (Nat.lt_of_le_of_lt b.len hn)
theorem avf{a b:ZX}(ha:a≠0)(hb:Nf b)(h:∀p,ZX.oX p→ZX.mu p b=min (ZX.mu p a) 1):sq a=b:=by
 have nA:=jG ha
 have e:sq a=sz' (nf a):=by
  unfold sq
  split
  ·rename_i h2
   have h3:nf a=1:=nA.N1 (by rw [yE];exact h2)
   rw [h3]
   show 1=wz 1 0
   rw [wz]
   show 1=qz 1 (gd 1)
   rw [ad3,Nf.one.self]
  ·rfl
 rw [e]
 exact Nf.sL (ad5 nA) hb fun p hp=>by rw [ad6 nA hp,WB hp ha,h p hp]
end Go.Proofs.YtiobceocpabjdaaGreat
namespace Go.Proofs.YtiobceocpabjdaaGreat
open Go Pm
open ZX hiding N W
theorem WV{a:ZX}(h:2≤ZX.N a):nth (bY a).l (ZX.N a-2)=lead a.l*((ZX.N a-1:Nat):Int):=by
 have h1:a.l.length=ZX.N a:=rfl
 have h2:nth (bY a).l (ZX.N a-2)=nth a.l (ZX.N a-1)*((ZX.N a-1:Nat):Int):=by
  show nth (aO (yC a.l)) _=_
  rw [jD,yC,bW (by simp;omega)]
  simp only [List.getElem_map,List.getElem_range]
  rw [show ZX.N a-2+1=ZX.N a-1 by omega]
 rw [h2,lead,h1]
theorem aep{a:ZX}(h:2≤ZX.N a):ZX.N (bY a)=ZX.N a-1:=by
 have h1:=oG a
 have h2:=WV h
 have hl:=dC a.c (show 0<a.l.length from by have:a.l.length=ZX.N a:=rfl;omega)
 have h3:nth (bY a).l (ZX.N a-2)≠0:=by rw [h2];exact Int.mul_ne_zero hl (by omega)
 rcases Nat.lt_or_ge (ZX.N a-2) (bY a).l.length with h4 | h4
 ·have:ZX.N (bY a)=(bY a).l.length:=rfl
  omega
 ·exact absurd (iI h4) h3
theorem aeq{a:ZX}(h:2≤ZX.N a):lead (bY a).l=lead a.l*((ZX.N a-1:Nat):Int):=by
 rw [←WV h,lead,show(bY a).l.length=ZX.N (bY a)from rfl,aep h,show ZX.N a-1-1=ZX.N a-2 by omega]
theorem aas{a:ZX}(h:ZX.N a≤1):bY a=0:=by
 refine Classical.byContradiction fun h0=>?_
 have h1:=ZX.aF.1 h0
 have:=oG a
 omega
theorem ail{f:ZX}(hf:Nf f):sG (bY f).l=(qY (bY f)).l:=by
 have h:¬lead (bY f).l<0:=by
  rcases Nat.lt_or_ge (ZX.N f) 2 with h2 | h2
  ·rw [aas (by omega)];decide
  ·rw [aeq h2]
   have:=Int.mul_nonneg (Int.le_of_lt hf.l) (show (0:Int)≤((ZX.N f-1:Nat):Int)by omega)
   omega
 show _=kC (bY f).l
 rw [N9,if_neg h]
theorem KB{α:Type}{g:α→List PV}{l:List α}{s n:Nat}{f:ZX}(hS:aE env.P 70 [aJ g l] (Po f.l))(h:Ch s n f)(hf:Nf f):aE env.P 69 [aJ g l] (.dU [CH (bK f), .int .i64 0]):=by
 have hn:=h.hn
 have hp:=h.pot
 have hs:=hp.le
 have bd:BZ (s+5) n (bY f):=h.bz.bY (by omega)
 have d1:=qN h.bz (by omega) (by omega)
 have d2:=uG ((bY f).l.map tN) (bd.DB (by omega) (by omega)) (s:=s+5) (n:=n) (by rw [b8];exact JZ bd) (by omega) (by omega)
 rw [zV,←iL,ail hf]at d2
 have b2:BZ (s+5) n (qY (bY f)):=jH bd
 have b1:BZ (s+5) n f:=h.bz.mono (by omega) (Nat.le_refl _)
 have GX:ZX.N (qY (bY f))≤ZX.N f:=Nat.le_trans (mI _) (Nat.le_trans (oG f) (by omega))
 have hc:bK f=f::u5 (ZX.N f) f (qY (bY f)):=rfl
 rw [DZ GX (Nat.le_refl _)]at hc
 have hf0:f.l.length≠0:=by have:=ZX.aF.1 hf.ne;exact Nat.pos_iff_ne_zero.1 this
 have hf1:¬f.l = []:=fun h0=>hf0 (by rw [h0];rfl)
 generalize hC:bK f=C at *
 generalize qY (bY f)=g0 at *
 generalize lU (bY f).l=pc at *
 generalize (bY f).l=dl at *
 refine cD [(0,aJ g l)] Tryz.func69 ?_
 refine aA [0] ?_
 refine aR [4] hS ?_
 refine aQ [4,14] ?_
 refine bJ ?_ ?_<;>intro h
 ·simp at h;exact absurd h hf1
 refine W.skip ?_
 refine W.aoB 1 rfl rfl rfl (fun K hK=>?_)
 simp (disch:=omega) [gw]
 refine W.lw [4,5] hK ?_;clear hK K;simp
 refine jC ?_
 refine cS d1 ?_
 refine cN [4,5,7] d2 ?_
 refine W.seq ?_
 refine W.block ?_
 refine W.bE (fun k σ=>∃(L:List ZX) (x y:ZX) (i ver v18 e18 s:Nat) (rows:Pm.Rows) (clk:Nat),σ=⟨fa [(4,Po x.l),(5, .ptr 18 v18 0 0),(7,Po y.l)],rows,clk⟩∧rows 16=some ⟨ver,24,1,emap zp L⟩∧rows 18=some ⟨v18,e18,1,[[.own 16 ver 0 (i+1)]]⟩∧L.length=i+1 ∧
  L++u5 k x y=C∧k=ZX.N y∧BZ s n x∧BZ s n y∧AJ 4500000000 n s x y∧i+ZX.N y≤20) (ZX.N g0) ?_ ?_
 ·exact⟨_, .refl,[f],f,g0,0,_,_,_,s+5,_,_,rfl,by simp [emap];(first | exact rfl | exact⟨rfl,rfl⟩),by simp;(first | exact rfl | exact⟨rfl,rfl⟩ | exact⟨rfl,rfl,rfl⟩),rfl,hc.symm,rfl,b1,b2,hp,by have:=b2.N;omega⟩
 rintro k _ ⟨L,x,y,i,ver,v18,e18,s,rows,clk,rfl,aer,w9,hL,hcc,rfl,bx,tE,hp,hiN⟩
 have hs:=hp.le
 have hlx:=bx.len
 have hly:=tE.len
 have hLl:(emap zp L).length=i+1:=by simp [emap,hL]
 refine aQ [4,5,7,27] ?_
 refine bJ ?_ ?_<;>intro h
 ·have hy:y≠0:=ZX.aF.2 (by show 0<y.l.length;simp at h;omega)
  have hR:=N7 (x.l.map tN) (y.l.map tN) (bx.DB (by omega) (by omega)) (tE.DB (by omega) (by omega)) (s:=s) (s':=s) (N:=n) (by rw [b8];exact JZ bx) (by rw [b8];exact JZ tE) (by
   have:n*(s+n+1)≤20*4500000000:=Nat.mul_le_mul hn hs
   omega)
  rw [zV,zV,if_neg (u0 hy),←iL,←iL]at hR
  have br:=WQ bx tE hy
  have akJ:(ZX.N x+1-ZX.N y)*(s+n+1)≤22*4500000000:=Nat.mul_le_mul (by have:ZX.N x=x.l.length:=rfl;omega) (by omega)
  have hrz:N4 x.l y.l=(qY (rz x y)).l:=by
   obtain⟨Y4,hN,_⟩:=tG (a:=x) hy
   obtain⟨m,q,hm,e⟩:=aeg y.c (ZX.aF.1 hy) (x.l.length+1) x.l x.c (by omega)
   rw [←Y4]at e
   exact aeh x.c y.c (ZX.aF.1 hy) (rz x y).c hN hm e
  rw [hrz]at hR
  have hNg:=GS (x:=(qY (rz x y)).l) (PB.of (JZ (jH br)) (by omega) (by omega))
  have e3:gV (qY (rz x y)).l=(nx x y).l:=rfl
  rw [e3]at hNg
  have GX:=aah (a:=x) hy
  have P4:=hp.step GX
  have bn:=WR bx tE hy
  have hch:L ++ [y]++u5 (ZX.N (nx x y)) y (nx x y)=C:=by
   rw [←hcc]
   obtain⟨j,hj⟩:∃j,ZX.N y=j+1:=⟨ZX.N y-1,by have:=ZX.aF.1 hy;have:ZX.N y=y.l.length:=rfl;omega⟩
   rw [hj,u5,if_neg (by omega),DZ (k:=j) (j:=ZX.N (nx x y)) (by omega) (Nat.le_refl _)]
   simp
  generalize (qY (rz x y)).l=pl at *
  generalize hnx:nx x y=nn at *
  refine W.skip ?_
  refine W.block ?_
  refine W.sr ?_
  simp (disch:=omega) [gw,aer,w9,hLl]
  refine bH [4,5,7] ?_
  refine aR [5,7,8] hR ?_
  refine W.b7 (fun K hK=>?_)
  simp (disch:=omega) [gw]
  refine cS hNg ?_
  refine hK _ ⟨ZX.N nn,_,aB _ [4,5,7],GX,L ++ [y],y,nn,i+1,_,v18,e18,_,_,_,rfl,by simp;first | exact rfl | skip,by simp;first | exact rfl | skip,by simp [hL],hch,rfl,tE.mono (by omega) (Nat.le_refl _),bn,P4,by omega⟩
 ·have hy:y=0:=by
   refine Classical.byContradiction fun h0=>?_
   have h1:=ZX.aF.1 h0
   have h2:ZX.N y=y.l.length:=rfl
   simp at h;rw [h2,h]at h1;simp at h1
  subst hy
  rw [kZ,List.append_nil]at hcc
  subst hcc
  have xN:List.take (i+1) L=L:=List.take_of_length_le (by omega)
  refine fA ?_
  refine W.VA 16 (by rw [aer];simp) (fun K hK=>?_)
  simp [aer]
  refine hK _ ?_
  have avg:FC rows 16 18=some ⟨v18,e18,1,[[aJ zp L]]⟩:=by
   simp [w9,aer,hLl,xN]
  clear aer w9
  generalize FC rows 16=wQ at *
  refine aA [2,3] ?_
  refine W.ret ?_
  simp [go,avg]
theorem aes{n:Nat}(hn:n≤20):∀(j s:Nat) (x g:ZX),BZ s n x→BZ s n g→AJ 4500000000 n s x g → ∀p∈u5 j x g,BZ 4500000000 n p
 | 0,_,_,_,_,_,_,p,hp=>by cases hp
 | j+1,s,x,g,bx,bg,hP,p,hp=>by
  have hs:=hP.le
  rw [u5]at hp
  split at hp
  ·cases hp
  ·rename_i h0
   have h0':g≠0:=ZX.aF.2 (Nat.pos_of_ne_zero h0)
   rcases List.mem_cons.1 hp with rfl | hp
   ·exact bg.mono (by omega) (Nat.le_refl _)
   ·exact aes hn j _ g (nx x g) (bg.mono (by omega) (Nat.le_refl _)) (WR bx bg h0') (hP.step (aah h0')) p hp
theorem WW:∀(j:Nat) (x g:ZX),(u5 j x g).length≤j
 | 0,_,_=>Nat.le_refl _
 | j+1,x,g=>by
  rw [u5]
  split
  ·simp
  ·simp only [List.length_cons];have:=WW j g (nx x g);omega
theorem Ch.all{s n:Nat}{f:ZX}(h:Ch s n f):(∀p∈bK f,BZ 4500000000 n p)∧(bK f).length≤21:=by
 have hp:=h.pot
 have hs:=hp.le
 have hn:=h.hn
 refine⟨fun p hq=>?_,?_⟩
 ·rcases List.mem_cons.1 hq with rfl | hq
  ·exact h.bz.mono (by omega) (Nat.le_refl _)
  ·exact aes hn _ _ _ _ (h.bz.mono (by omega) (Nat.le_refl _)) (jH (h.bz.bY (by omega))) hp p hq
 ·have:=WW (ZX.N f) f (qY (bY f))
  have h2:=h.bz.N
  show(f::u5 (ZX.N f) f (qY (bY f))).length≤21
  simp only [List.length_cons];omega
theorem aim{a u v:ZX}{c:Int}(na:Nf a)(hc:c≠0)(h:u*a+v*bY a=K c):sq a=a:=avf na.ne na fun p hp=>by
 have hm:mu p a≤1:=by
  rcases Nat.lt_or_ge (mu p a) 2 with h1 | h1
  ·omega
  ·exfalso
   obtain⟨m,hmm⟩:∃m,mu p a=m+1:=⟨mu p a-1,by omega⟩
   obtain⟨_,h2⟩:=yD hp na.ne hmm
   have d1:dv p a:=by have:=(jF hp na.ne).1 (show 1≤mu p a by omega);rwa [show p^1=p by rw [pow_succ',eM];grind]at this
   have hd:bY a≠0:=fun h0=>by rw [h0]at h2;have:mu p (0:ZX)=m:=h2;have h9:=(yD hp na.ne hmm).1;exact h9 h0
   have d2:dv p (bY a):=by have:=(jF hp hd).1 (show 1≤mu p (bY a)by omega);rwa [show p^1=p by rw [pow_succ',eM];grind]at this
   have d3:dv p (K c):=by rw [←h];exact(d1.mul_left u).add (d2.mul_left v)
   have h3:=d3.nQ (pR hc)
   have h4:=hp.deg
   rw [N_K hc]at h3
   omega
 omega
theorem aY(q:Rat):dR q.num q.den=q:=by
 rw [dR,if_neg (by have:=q.den_nz;omega)]
 exact Rat.num_divInt_den q
theorem D4(n d:Int):(sml n d).num.natAbs≤30∧((sml n d).den:Int).natAbs≤6:=by
 have h1:=Int.emod_nonneg n (show (61:Int)≠0 by decide)
 have h2:=Int.emod_lt_of_pos n (show (0:Int)<61 by decide)
 have h3:=Int.emod_nonneg d (show (6:Int)≠0 by decide)
 have h4:=Int.emod_lt_of_pos d (show (0:Int)<6 by decide)
 unfold sml
 rw [qH _ _ (by omega),qI _ _ (by omega)]
 rw [if_neg (by omega),if_neg (by omega)]
 refine⟨Nat.le_trans (Int.natAbs_ediv_le_natAbs _ _) (by omega),Nat.le_trans (Int.natAbs_ediv_le_natAbs _ _) (by omega)⟩
structure SQ(u:Nat)(q:Rat):Prop where
 n2:sz 2 q.num≤u
 d2:sz 2 (q.den:Int)≤u
 hu:1≤u
theorem SQ.nL{u:Nat}{q:Rat}(h:SQ u q):sz LL q.num≤u:=Nat.le_trans (DV _) h.n2
theorem SQ.dL{u:Nat}{q:Rat}(h:SQ u q):sz LL (q.den:Int)≤u:=Nat.le_trans (DV _) h.d2
theorem yK(n d:Int):SQ 5 (sml n d):=by
 obtain⟨h1,h2⟩:=D4 n d
 exact⟨iP (by omega),iP (by omega),by decide⟩
section
variable {c:List ZX} {n u:Nat} {q:Rat} (hb:∀p∈c,BZ 4500000000 n p) (hn:n≤20) (hl:c.length≤21) (hq:SQ u q) (hu:u≤1000000000)
include hb hn hl hq hu
theorem aet:aE env.P 151 [aJ zq c,R2 q.num q.den] (.int .i64 (vr (oL c q.num q.den))):=OZ (by omega) fun p hp=>by
 have hmul:n*(u+1)≤20*(u+1):=Nat.mul_le_mul_right _ hn
 exact yG (hb p hp) hq.n2 hq.d2 hq.hu (by omega) (by show _<137438953472;omega)
theorem aeu:aE env.P 168 [CH c,T2 q.num q.den] (.int .i64 (vr (oL c q.num q.den))):=TH (by omega) fun p hp=>by
 have hmul:n*(u+1)≤20*(u+1):=Nat.mul_le_mul_right _ hn
 exact HG (JZ (hb p hp)) p.c hq.nL hq.dL hq.hu (by omega) (by omega) (by omega) (aY q) ⟨hq.nL,hq.dL⟩
end
theorem pbs{c:List ZX}{n:Nat}(hb:∀p∈c,BZ 4500000000 n p)(hn:n≤20):∀p∈c,PB p.l:=fun p hp=>(hb p hp).pb (by decide) (by omega)
structure MK(a:ZX)(c:List ZX):Prop where
 to:aE env.P 100 [PI a.l] (Po a.l)
 new:aE env.P 69 [Po a.l] (.dU [CH c, .int .i64 0])
 chain:aE env.P 81 [PI a.l] (aJ zq c)
 bd:∀p∈c,BZ 4500000000 20 p
 len:c.length≤21
theorem MK.of{s n:Nat}{a:ZX}(h:rG s n a)(h0:a≠0)(A5:1≤n)(h1:1≤s):MK a (bK (sq a)):=by
 have hC:=h.ch h0 A5
 obtain⟨hb,hl⟩:=hC.all
 have hqb:=h.sM
 have hs:s<1099511627776:=by unfold qb at hqb;omega
 have hn:=h.hn
 exact⟨WU h.bz hs (by omega),KB (u3 h) hC (D2 h0).1,D3 h h0 A5 h1,fun p hp=>(hb p hp).mono (Nat.le_refl _) hn,hl⟩
theorem oM(a b:Nat):(2:Rat)^(a+b)=2^a*2^b:=by
 induction b with
 | zero=>simp
 | succ b ih=>rw [←Nat.add_assoc,Rat.pow_succ,Rat.pow_succ,ih];grind
theorem two_pow_pos(a:Nat):(0:Rat)<2^a:=Rat.pow_pos (by decide)
theorem oN:∀a:Nat,(1:Rat)≤2^a
 | 0=>by simp
 | a+1=>by
  have:=oN a
  rw [Rat.pow_succ];grind
theorem lW{a b:Nat}(h:a≤b):(2:Rat)^a≤2^b:=by
 obtain⟨c,rfl⟩:=Nat.exists_eq_add_of_le h
 rw [oM]
 have h1:=oN c
 have h2:=Rat.mul_le_mul_of_nonneg_left h1 (Rat.le_of_lt (two_pow_pos a))
 grind
theorem O2{c:Int}{s:Nat}(h:c.natAbs<2^s):Ab (c:Rat) (2^s):=by
 have h1:((2^s:Int):Rat)=2^s:=by rw [Rat.intCast_pow];rfl
 have h2:(2^s:Int)=((2^s:Nat):Int):=by rw [Int.natCast_pow];rfl
 constructor
 ·rw [←h1,←Rat.intCast_neg]
  exact Rat.intCast_le_intCast.2 (by omega)
 ·rw [←h1]
  exact Rat.intCast_le_intCast.2 (by omega)
theorem akO{c:Int}{s:Nat}(h:sz 2 c≤s):Ab (c:Rat) (2^s):=
 O2 (Nat.lt_of_lt_of_le (iZ (b:=2) (by decide) c) (Nat.pow_le_pow_right (by decide) h))
theorem BZ.ab{s n:Nat}{a:ZX}(h:BZ s n a):∀c∈a.l,Ab (c:Rat) (2^s):=fun c hc=>akO (h.sz c hc)
theorem KC(s β:Nat):∀k,EP (2^s) (2^β) k=2^(s+k*(β+2))
 | 0=>by simp [EP]
 | k+1=>by
  rw [EP,KC s β k,show s+(k+1)*(β+2)=s+k*(β+2)+β+1+1 by rw [Nat.add_mul];omega,Rat.pow_succ,Rat.pow_succ,oM _ β]
  grind
theorem BZ.aAp{s n β:Nat}{a:ZX}(h:BZ s n a){t:Rat}(ht:Ab t (2^β)):Ab (e t a) (2^(s+n*(β+2))):=by
 have h1:=OX (S:=2^s) (B:=2^β) (Rat.le_of_lt (two_pow_pos s)) (oN β) ht a.l h.ab
 rw [KC]at h1
 exact h1.mono (lW (by have:=Nat.mul_le_mul_right (β+2) h.len;omega))
theorem WX{s' N:Nat}{y:List Int}(tE:Bd 2 s' N y)(cy:Cn y)(hy:0<y.length):∀(n j s:Nat) (x:List Int),Cn x→x.length<n→Bd 2 s N x→x.length+1≤y.length+j →
  ∃(m:Int) (q:List Int),0<m∧sz 2 m≤j*s'+1∧Bd 2 (s+j*(2*s'+N+2)) N q ∧ ∀t,m*V t x=V t q*V t y+V t (rq y n x)
 | 0,j,s,x,_,h,_,_=>by omega
 | n+1,j,s,x,cx,h,bx,hj=>by
  rw [rq]
  split
  ·exact⟨1,[],by decide,Nat.le_trans (dY (k:=1) (by decide) (by decide)) (by omega),⟨by simp,fun c hc=>by cases hc⟩,fun t=>by simp [V]⟩
  ·rename_i h1
   obtain⟨j,rfl⟩:∃i,j=i+1:=⟨j-1,by omega⟩
   have hl:=tF hy (show y.length≤x.length by omega)
   have hb:=S9 tE bx hy (show y.length≤x.length by omega)
   obtain⟨m,q,hm,hms,hq,h4⟩:=WX tE cy hy n j _ (WM y x) (Cn.fL _ _) (by omega) hb (by omega)
   have LQ:=dC cy hy
   have e1:(j+1)*s'=j*s'+s':=by rw [Nat.add_mul];omega
   have e2:(j+1)*(2*s'+N+2)=j*(2*s'+N+2)+(2*s'+N+2):=by rw [Nat.add_mul];omega
   have e3:j*s'≤j*(2*s'+N+2):=Nat.mul_le_mul_left _ (by omega)
   have sx:sz 2 (xP (lead y)*lead x)≤s:=by
    refine Nat.le_trans (dP (b:=2) (by decide) ?_) (gT bx)
    rw [Int.natAbs_mul]
    have:(xP (lead y)).natAbs=1:=by unfold xP;split<;>rfl
    rw [this,Nat.one_mul];exact Nat.le_refl _
   have iX:=(Bd.bB (b:=2) (by decide) (Bd.rA (b:=2) sx (x.length-y.length)) hms)
   have hlen:=bx.len
   refine⟨m*(lead y).natAbs,iJ q (bB (rA (x.length-y.length) (xP (lead y)*lead x)) m),Int.mul_pos hm (by omega),?_,?_,fun t=>?_⟩
   ·have h8:sz 2 ((lead y).natAbs:Int)≤s':=Nat.le_trans (dP (b:=2) (by decide) (by simp)) (gT tE)
    have:=cG (b:=2) (by decide) hms h8
    omega
   ·refine(Bd.iJ (b:=2) (s:=s+(j+1)*(2*s'+N+2)-1) (by decide) (hq.mono (by omega) (Nat.le_refl _)) (iX.mono (by omega) (by omega))).mono (by omega) (Nat.le_refl _)
   ·have h5:=aed t y x
    have h6:=h4 t
    rw [r6,cW,oC]
    have:m*((lead y).natAbs:Int)*V t x=m*(((lead y).natAbs:Int)*V t x):=by grind
    rw [this,h5]
    grind
theorem aoD{s n:Nat}{a b:ZX}(ha:BZ s n a)(hb:BZ s n b)(h0:b≠0):∃(m:Int) (q:ZX),0<m∧sz 2 m≤(n+1)*s+1∧BZ (s+(n+1)*(2*s+n+2)) n q∧((nx a b=0∧K m*a=q*b)∨(nx a b≠0 ∧ ∃k:Int,0<k∧K m*a=q*b-K k*nx a b)):=by
 obtain⟨Y4,hN,_⟩:=tG (a:=a) h0
 obtain⟨m,q,hm,hms,hq,e⟩:=WX hb b.c (ZX.aF.1 h0) (a.l.length+1) (n+1) s a.l a.c (by omega) ha (by have:=ha.len;have:=ZX.aF.1 h0;show a.l.length+1≤b.l.length+(n+1);omega)
 rw [←Y4]at e
 have e1:K m*a=ZX.of q*b+rz a b:=ZX.ext fun t=>by rw [eE,wV,mP,eE,Z8];exact e t
 refine⟨m,ZX.of q,hm,hms,Bd.cut hq,?_⟩
 by_cases hr:rz a b=0
 ·left
  refine⟨?_,by rw [e1,hr];grind⟩
  exact ZX.ext fun t=>by
   show V t (gV (kC (rz a b).l))=_
   rw [hr];rfl
 ·right
  have hrn:(rz a b).l ≠ []:=u0 hr
  have hp:=DW (rz a b).c hrn
  have hg:=cO (rz a b).c hrn
  have hnx:K (bO (rz a b).l:Int)*nx a b = -(rz a b):=ZX.ext fun t=>by
   rw [eE,wV,G2]
   show _*V t (gV (kC (rz a b).l))=_
   rw [CQ]
   have h2:V t (rz a b).l=V t (kC (rz a b).l)*(bO (rz a b).l:Int):=by rw [←eC,hp]
   rw [h2];grind
  refine⟨fun h=>hr ?_,_,Int.natCast_pos.2 (Nat.pos_of_ne_zero hg),by rw [hnx,e1];grind⟩
  rw [h]at hnx
  have:(rz a b) = -(K (bO (rz a b).l:Int)*0):=by rw [hnx];grind
  rw [this];grind
theorem O3{a b:ZX}(hb:b≠0)(hg:gz a b=1)(hd:dv b a):∃c:Int,c≠0∧b=K c:=by
 have h1:=(fH a b).least hd (dv.refl b)
 rw [hg]at h1
 have h2:=h1.nQ yA
 rw [ZX.G3]at h2
 have:=ZX.aF.1 hb
 exact ZX.lJ (by omega)
def LF(C n β:Nat):Nat:=C+(n+1)*(2*C+n+2)+n*(β+2)+2
theorem WY{C n β:Nat}(hn:n≤20):∀(k s:Nat) (a b:ZX),ZX.N b≤k→b≠0→BZ s n a→BZ s n b→AJ C n s a b→gz a b=1→StC (2^LF C n β) (2^β) (a::u5 k a b) ∧ ∀p∈u5 k a b,BZ C n p
 | 0,s,a,b,hk,h0,_,_,_,_=>absurd hk (by have:=ZX.aF.1 h0;omega)
 | k+1,s,a,b,hk,h0,ha,hb,hp,hg=>by
  have hs:=hp.le
  have hNb:=ZX.aF.1 h0
  obtain⟨m,q,hm,hms,hq,hr⟩:=aoD ha hb h0
  rw [u5,if_neg (by omega)]
  have hbC:BZ C n b:=hb.mono (by omega) (Nat.le_refl _)
  rcases hr with ⟨hz,e1⟩ | ⟨hz,kk,hkk,e1⟩
  ·rw [hz,kZ]
   exact⟨O3 h0 hg ⟨m,by omega,q,e1⟩,fun p hp=>by
    simp only [List.mem_cons,List.not_mem_nil,or_false]at hp
    subst hp;exact hbC⟩
  ·have hN:=aah (a:=a) h0
   have qZ:gz b (nx a b)=1:=by
    rw [←hg]
    exact(JX (c:=m) (k := -kk) (q:=q) (by omega) (by omega) (by rw [e1,show K (-kk) = -K kk from ZX.ext fun t=>by rw [wV,G2,wV]];grind)).symm
   obtain⟨ih,ih2⟩:=WY hn k _ b (nx a b) (by omega) hz (hb.mono (Nat.le_add_right _ _) (Nat.le_refl _)) (WR ha hb h0) (hp.step hN) qZ
   refine⟨?_,fun p hp=>?_⟩
   ·obtain⟨k2,rfl⟩:∃k2,k=k2+1:=⟨k-1,by have:=ZX.aF.1 hz;omega⟩
    rw [u5,if_neg (by have:=ZX.aF.1 hz;omega)]at ih ⊢
    have c1:(n+1)*s≤(n+1)*(2*C+n+2):=Nat.mul_le_mul_left _ (by omega)
    have c2:(n+1)*(2*s+n+2)≤(n+1)*(2*C+n+2):=Nat.mul_le_mul_left _ (by omega)
    refine⟨ih,m,kk,q,hm,hkk,e1,?_,fun t ht=>?_⟩
    ·have h1:=(akO hms).2
     have h2:=lW (show (n+1)*s+1+1≤LF C n β by unfold LF;omega)
     rw [Rat.pow_succ]at h2
     grind
    ·have h1:=(BZ.aAp hq ht)
     have h2:=(Ab.mul (x:=2) (M:=2) ⟨by decide,by decide⟩ h1)
     refine h2.mono ?_
     have h3:=lW (show s+(n+1)*(2*s+n+2)+n*(β+2)+1≤LF C n β by unfold LF;omega)
     rw [Rat.pow_succ]at h3
     grind
   ·rcases List.mem_cons.1 hp with rfl | hp
    ·exact hbC
    ·exact ih2 p hp
theorem O4:∀(k:Nat) (a b:ZX),(u5 k a b).length≤ZX.N b
 | 0,a,b=>by simp [u5]
 | k+1,a,b=>by
  rw [u5]
  split
  ·simp
  ·rename_i h0
   have:=aah (a:=a) (ZX.aF.2 (Nat.pos_of_ne_zero h0))
   have:=O4 k b (nx a b)
   simp only [List.length_cons];omega
theorem avh{a:ZX}(ha:a≠0):∃c:Int,0<c∧a=K c*qY a:=by
 have hp:=DW a.c (u0 ha)
 refine⟨(bO a.l:Int),Int.natCast_pos.2 (Nat.pos_of_ne_zero (cO a.c (u0 ha))),ZX.ext fun t=>?_⟩
 rw [eE,wV]
 show _=_*V t (kC a.l)
 have h2:V t a.l=V t (kC a.l)*(bO a.l:Int):=by rw [←eC,hp]
 rw [h2];grind
theorem ain{C s n β:Nat}{f:ZX}(hn:n≤20)(hf:f≠0)(hb:BZ (s+5) n f)(hp:AJ C n (s+5) f (qY (bY f)))(bd:BZ (s+5) n (qY (bY f)))(hg:gz f (bY f)=1):StC (2^LF C n β) (2^β) (bK f)∧(∀p∈bK f,BZ C n p)∧(bK f).length≤n+1 ∧ ∀g k,u5 (ZX.N f) f (qY (bY f))=g::k → ∃c:Int,0<c∧bY f=K c*g:=by
 have hs:=hp.le
 have hfC:BZ C n f:=hb.mono (by omega) (Nat.le_refl _)
 have hNf:=hb.N
 have h1:=oG f
 have h2:ZX.N (qY (bY f))≤ZX.N (bY f):=mI _
 by_cases h0:bY f=0
 ·have zK:qY (bY f)=0:=by rw [h0];exact ZX.ext fun t=>rfl
  have hc:bK f = [f]:=by unfold bK;rw [zK,kZ]
  rw [hc]
  have hN1:ZX.N f≤1:=Classical.byContradiction fun h=>JS (a:=f) (by omega) h0
  refine⟨ZX.lJ (by have:=ZX.aF.1 hf;omega),fun p hp=>by
   simp only [List.mem_cons,List.not_mem_nil,or_false]at hp
   subst hp;exact hfC,by simp,fun g k h=>?_⟩
  rw [zK,kZ]at h;cases h
 ·obtain⟨c,hc,e⟩:=avh h0
  have zK:qY (bY f)≠0:=fun h=>h0 (by rw [e,h];grind)
  have qZ:gz f (qY (bY f))=1:=by
   rw [←hg]
   refine DU (dv.refl f) (dv.refl f) ⟨1,by decide,K c,by rw [e];show(1:ZX)*_=_;grind⟩ ⟨c,by omega,1,by grind⟩
  obtain⟨g1,g2⟩:=WY (β:=β) hn (ZX.N f) (s+5) f (qY (bY f)) (by omega) zK hb bd hp qZ
  refine⟨g1,fun p hp=>?_,?_,fun g k h=>?_⟩
  ·rcases List.mem_cons.1 hp with rfl | hp
   ·exact hfC
   ·exact g2 p hp
  ·have:=O4 (ZX.N f) f (qY (bY f))
   show(f::u5 (ZX.N f) f (qY (bY f))).length≤_
   simp only [List.length_cons]
   omega
  ·obtain⟨j,hj⟩:∃j,ZX.N f=j+1:=⟨ZX.N f-1,by have:=ZX.aF.1 hf;omega⟩
   rw [hj,u5,if_neg (by have:=ZX.aF.1 zK;omega)]at h
   cases h
   exact⟨c,hc,e⟩
theorem WZ(μ:Nat):∀k,(2:Rat)^(μ*k)*AL (2^μ) k=1
 | 0=>by simp [AL]
 | k+1=>by
  have h1:=WZ μ k
  have h2:AL (2^μ) (k+1)=AL (2^μ) k/2^μ:=rfl
  have h3:AL ((2:Rat)^μ) k/2^μ*2^μ=AL (2^μ) k:=Rat.div_mul_cancel (Rat.ne_of_gt (two_pow_pos μ))
  rw [h2,Nat.mul_add,Nat.mul_one,oM]
  grind
def jb(C n β:Nat):Nat:=(n+1)*LF C n β+C+n*(β+2)+1
theorem W3{C s n β:Nat}{f:ZX}(hn:n≤20)(hf:f≠0)(hb:BZ (s+5) n f)(hp:AJ C n (s+5) f (qY (bY f)))(bd:BZ (s+5) n (qY (bY f)))(hg:gz f (bY f)=1){δ:Rat}(hδ:δ*2^jb C n β≤1):Lcl (bK f) f (2^β) δ:=by
 obtain⟨h1,h2,h3,h4⟩:=ain (β:=β) hn hf hb hp bd hg
 have hM:(2:Rat)≤2^LF C n β:=by
  have:=lW (show 1≤LF C n β by unfold LF;omega)
  rw [Rat.pow_one]at this
  exact this
 refine StC.loc (Q:=2^(C+n*(β+2))) hM (oN β) (Rat.le_of_lt (two_pow_pos C)) h1 (fun p hp=>⟨(h2 p hp).ab,?_⟩) h4 ?_
 ·rw [KC]
  exact lW (by have:=Nat.mul_le_mul_right (β+2) (h2 p hp).len;omega)
 ·have e1:=WZ (LF C n β) (bK f).length
  have hε:=w5 hM (bK f).length
  have h5:LF C n β*(bK f).length+(C+n*(β+2))+1≤jb C n β:=by
   have:=Nat.mul_le_mul_left (LF C n β) h3
   rw [Nat.mul_comm (LF C n β) (n+1)]at this
   unfold jb;omega
  have h6:=lW h5
  rw [Rat.pow_succ,oM]at h6
  have hA:=two_pow_pos (LF C n β*(bK f).length)
  have hB:=two_pow_pos (C+n*(β+2))
  show δ*2^(C+n*(β+2))<AL (2^LF C n β) (bK f).length
  generalize (2:Rat)^(LF C n β*(bK f).length)=A at *
  generalize (2:Rat)^(C+n*(β+2))=Q at *
  generalize AL ((2:Rat)^LF C n β) (bK f).length=ε at *
  generalize (2:Rat)^jb C n β=J at *
  by_cases h0:0<δ
  ·have h7:=Rat.mul_le_mul_of_nonneg_left h6 (Rat.le_of_lt h0)
   have h8:δ*Q*A≤1/2:=by grind
   refine Rat.lt_of_mul_lt_mul_right (c:=A) ?_ (Rat.le_of_lt hA)
   grind
  ·have h7:=Rat.mul_le_mul_of_nonneg_right (show δ≤0 by grind) (Rat.le_of_lt hB)
   grind
theorem KE:∀(l:List Int) (n:Nat) (p:Int),(l.foldl u9 (n,p)).1=n+FH p l
 | [],n,p=>rfl
 | s::l,n,p=>by
  have h:u9 (n,p) s=if s=0 then(n,p)else(if p≠0∧s≠p then n+1 else n,s):=rfl
  rw [List.foldl_cons,h]
  simp only [FH]
  split
  ·exact KE l n p
  ·split<;>rw [KE l]<;>omega
theorem TL(l:List Int):vr l=FH 0 l:=by
 rw [vr,KE];omega
theorem akP{n d:Int}{q:Rat}(h:(n:Rat)=q*d):∀x:List Int,((hm n d x).1:Rat)*d=qv q x*(d:Rat)^x.length∧((hm n d x).2:Rat)=(d:Rat)^x.length
 | []=>by
  refine⟨?_,?_⟩
  ·show((0:Int):Rat)*d=0*_
   rw [Rat.intCast_zero,Rat.zero_mul,Rat.zero_mul]
  ·show((1:Int):Rat)=(d:Rat)^0
   rw [Rat.intCast_one,Rat.pow_zero]
 | a::l=>by
  obtain⟨h1,h2⟩:=akP h l
  have e:hm n d (a::l)=((hm n d l).1*n+a*(hm n d l).2,(hm n d l).2*d):=rfl
  rw [e]
  simp only [qv,List.length_cons,Rat.pow_succ,Rat.intCast_add,Rat.intCast_mul]
  rw [h,h2]
  refine⟨?_,rfl⟩
  have:(((hm n d l).1:Rat)*(q*d)+a*(d:Rat)^l.length)*d=((hm n d l).1:Rat)*d*(q*d)+a*((d:Rat)^l.length*d):=by grind
  rw [this,h1];grind
theorem aau(v:Int):v.sign=b6 (v:Rat):=by
 rcases Int.lt_trichotomy v 0 with h | h | h
 ·rw [Int.sign_eq_neg_one_of_neg h,gI (Rat.intCast_neg_iff.2 h)]
 ·subst h;decide
 ·rw [Int.sign_eq_one_of_pos h,eN (Rat.intCast_pos.2 h)]
theorem BD(p:ZX)(q:Rat):J6 p.l q.num q.den=b6 (e q p):=by
 have hd:(0:Rat)<((q.den:Int):Rat):=Rat.intCast_pos.2 (by have:=q.den_pos;omega)
 have hq:((q.num:Int):Rat)=q*((q.den:Int):Rat):=by
  have h1:q=(q.num:Rat)/((q.den:Int):Rat):=by
   rw [←Rat.divInt_eq_div,Rat.num_divInt_den]
  have h2:=Rat.div_mul_cancel (a:=(q.num:Rat)) (Rat.ne_of_gt hd)
  rw [←h1]at h2
  exact h2.symm
 have h1:=(akP hq p.l).1
 show(hm q.num q.den p.l).1.sign=b6 (qv q p.l)
 rw [aau]
 have h2:b6 (((hm q.num q.den p.l).1:Rat)*((q.den:Int):Rat))=b6 (qv q p.l*((q.den:Int):Rat)^p.l.length):=by rw [h1]
 rw [tH,tH,eN hd,eN (Rat.pow_pos hd)]at h2
 omega
theorem D5(c:List ZX)(q:Rat):vr (oL c q.num q.den)=vt c q:=by
 rw [TL]
 unfold vt oL FI
 congr 1
 exact List.map_congr_left fun p _=>BD p q
theorem aoE(c:List ZX):∃S:Rat,0≤S ∧ ∀p∈c,∀x∈p.l,Ab (x:Rat) S:=by
 induction c with
 | nil=>exact⟨0,Rat.le_refl,fun p hp=>by cases hp⟩
 | cons a c ih =>
  obtain⟨S,hS,h⟩:=ih
  obtain⟨A,hA,ha⟩:=BA a.l
  refine⟨S+A,by grind,fun p hp x hx=>?_⟩
  rcases List.mem_cons.1 hp with rfl | hp
  ·exact(ha x hx).mono (by grind)
  ·exact(h p hp x hx).mono (by grind)
theorem aev(c:List ZX):∃X:Rat,1≤X∧(∀t,X≤t→vt c t=vr (sgR c)) ∧ ∀t,t ≤ -X→vt c t=vr (sgL c):=by
 obtain⟨S,hS,h⟩:=aoE c
 refine⟨S+1,by grind,fun t ht=>?_,fun t ht=>?_⟩
 ·rw [TL]
  unfold vt sgR FI
  congr 1
  exact List.map_congr_left fun p hp=>(HD hS p.c (h p hp)).1 ht
 ·rw [TL]
  unfold vt sgL FI
  congr 1
  exact List.map_congr_left fun p hp=>(HD hS p.c (h p hp)).2 ht
theorem mM{a:ZX}(ha:a≠0):Nf (sq a) ∧ ∀p,ZX.oX p→ZX.mu p (sq a)=min (ZX.mu p a) 1:=by
 have hA:=jG ha
 unfold sq
 split
 ·rename_i h
  refine⟨hA,fun p hp=>?_⟩
  obtain⟨c,hc,rfl⟩:=ZX.lJ (x:=a) (by have:=ZX.aF.1 ha;omega)
  rw [WB hp ha,ZX.aab hp hc];rfl
 ·exact⟨ad5 hA,fun p hp=>by rw [ad6 hA hp,WB hp ha]⟩
theorem W4{a:ZX}(ha:a≠0):gz (sq a) (bY (sq a))=1:=by
 obtain⟨h1,h2⟩:=mM ha
 refine Nf.sL (WG h1.ne) Nf.one fun p hp=>?_
 have e1:mu p (1:ZX)=0:=aab hp (by decide)
 have h3:=akC h1.ne hp
 rw [h2 p hp]at h3
 rw [e1]
 show mu p (gd (sq a))=0
 rw [h3]
 omega
theorem xA{a:ZX}(ha:a≠0):dv (sq a) a:=(D2 ha).2.trans (G5 a).2
theorem Lcl.mono{L:List ZX}{f:ZX}{B C δ:Rat}(h:Lcl L f B δ)(hc:C≤B):Lcl L f C δ:=
 ⟨fun s t hs ht=>h.turns s t (hs.mono hc) (ht.mono hc),fun s t hs ht=>h.simple s t (hs.mono hc) (ht.mono hc)⟩
theorem TM(B:Rat):∃β:Nat,B≤2^β:=by
 have h1:=Rat.lt_floor_add_one B
 refine⟨(B.floor+1).toNat,Rat.le_trans (Rat.le_of_lt h1) ?_⟩
 have h2:((2^(B.floor+1).toNat:Int):Rat)=2^(B.floor+1).toNat:=by rw [Rat.intCast_pow];rfl
 rw [←h2]
 refine Rat.intCast_le_intCast.2 ?_
 have h3:(B.floor+1).toNat<2^(B.floor+1).toNat:=Nat.lt_two_pow_self
 have h4:((2^(B.floor+1).toNat:Nat):Int)=2^(B.floor+1).toNat:=by rw [Int.natCast_pow];rfl
 omega
theorem Ch.KF{s n:Nat}{f:ZX}(h:Ch s n f)(hf:f≠0)(hg:gz f (bY f)=1):w7 (bK f) f:=⟨fun B hB=>by
 have hn:=h.hn
 obtain⟨β,hβ⟩:=TM B
 have bd:BZ (s+5) n (bY f):=h.bz.bY (by omega)
 have hJ:=two_pow_pos (jb 4500000000 n β)
 have hJ1:(1:Rat)/2^jb 4500000000 n β*2^jb 4500000000 n β=1:=Rat.div_mul_cancel (Rat.ne_of_gt hJ)
 refine⟨1/2^jb 4500000000 n β,(Rat.lt_div_iff hJ).2 (by grind),?_⟩
 exact Lcl.mono (W3 hn hf (h.bz.mono (by omega) (Nat.le_refl _)) h.pot (jH bd) hg (by rw [hJ1];exact Rat.le_refl)) hβ⟩
theorem rG.KF{s n:Nat}{a:ZX}(h:rG s n a)(h0:a≠0)(A5:1≤n):w7 (bK (sq a)) (sq a):=(h.ch h0 A5).KF (mM h0).1.ne (W4 h0)
def dD(t:Rat):ZX:=of [-t.num,(t.den:Int)]
theorem KG(s t:Rat):e s (dD t)=((t.den:Int):Rat)*(s-t):=by
 rw [dD,HE,Rat.intCast_neg]
 have hd:(0:Rat)<((t.den:Int):Rat):=Rat.intCast_pos.2 (by have:=t.den_pos;omega)
 have hq:((t.num:Int):Rat)=t*((t.den:Int):Rat):=by
  have h1:t=(t.num:Rat)/((t.den:Int):Rat):=by
   rw [←Rat.divInt_eq_div,Rat.num_divInt_den]
  have h2:=Rat.div_mul_cancel (a:=(t.num:Rat)) (Rat.ne_of_gt hd)
  rw [←h1]at h2
  exact h2.symm
 rw [hq];grind
theorem k9(t:Rat):ZX.N (dD t)=2:=by
 have:aO [-t.num,(t.den:Int)] = [-t.num,(t.den:Int)]:=jL (x:=(t.den:Int)) (by have:=t.den_nz;omega) [-t.num]
 show(aO [-t.num,(t.den:Int)]).length=2
 rw [this];rfl
theorem O5(t:Rat):oX (dD t):=⟨by rw [k9];decide,fun d hd=>by
 have h0:dD t≠0:=ZX.aF.2 (by rw [k9];decide)
 have h1:=hd.nQ h0
 have h2:=ZX.aF.1 (hd.ne h0)
 rw [k9]at h1 ⊢
 omega⟩
theorem avi{a b:ZX}{t:Rat}(h:dv b a)(hb:e t b=0):e t a=0:=by
 obtain⟨c,hc,q,he⟩:=h
 have h1:(c:Rat)*e t a=e t q*e t b:=by rw [←AK (t:=t) c,←iO,he,iO]
 rw [hb,Rat.mul_zero]at h1
 exact(Rat.mul_eq_zero.1 h1).resolve_left fun h=>hc (Rat.intCast_eq_zero_iff.1 h)
theorem KH{a:ZX}{t:Rat}:e t a=0↔dv (dD t) a:=by
 have h0:dD t≠0:=ZX.aF.2 (by rw [k9];decide)
 have hz:e t (dD t)=0:=by rw [KG];grind
 refine⟨fun ha=>?_,fun h=>avi h hz⟩
 obtain⟨c,hc,q,r,he,hN⟩:=ZX.adU a h0
 have h1:e t (K c*a)=e t q*e t (dD t)+e t r:=by rw [he,akL,iO]
 rw [iO,ha,hz]at h1
 have hr:e t r=0:=by grind
 have FV:r=0:=Classical.byContradiction fun FV=>by
  rw [k9]at hN
  obtain⟨k,hk,rfl⟩:=ZX.lJ (x:=r) (by have:=ZX.aF.1 FV;omega)
  rw [AK]at hr
  exact hk (Rat.intCast_eq_zero_iff.1 hr)
 exact⟨c,hc,q,by rw [he,FV];grind⟩
theorem W5{a:ZX}(ha:a≠0){t:Rat}:e t (sq a)=0↔e t a=0:=by
 refine⟨avi (xA ha),fun h=>?_⟩
 have hp:=O5 t
 have h1:=KH.1 h
 obtain⟨g1,g2⟩:=mM ha
 have p1:(dD t)^1=dD t:=by rw [pow_succ',eM];grind
 have h2:1≤mu (dD t) a:=(jF hp ha).2 (by rw [p1];exact h1)
 have h3:1≤mu (dD t) (sq a):=by rw [g2 _ hp];omega
 have h4:=(jF hp g1.ne).1 h3
 rw [p1]at h4
 exact KH.2 h4
theorem aav{L:List ZX}{f:ZX}(h:w7 L f){b:Rat}(hb:∀a,Bg a b f):vr (sgL L)=vt L b:=by
 obtain⟨X,hX,_,h2⟩:=aev L
 by_cases B4:b ≤ -X
 ·exact(h2 b B4).symm
 ·rw [←h2 (-X) Rat.le_refl]
  exact h.bg (hb (-X)) (Rat.not_le.1 B4)
theorem TN{L:List ZX}{f:ZX}(h:w7 L f){a:Rat}(ha:∀b,Bg a b f):vr (sgR L)=vt L a:=by
 obtain⟨X,hX,h1,_⟩:=aev L
 by_cases B4:X≤a
 ·exact(h1 a B4).symm
 ·rw [←h1 X Rat.le_refl]
  exact(h.bg (ha X) (Rat.not_le.1 B4)).symm
theorem j9(p q:Rat):(dI (p.num*q.den) (q.num*p.den)<0)↔p<q:=by
 rw [mF,Rat.lt_iff]
theorem akQ(C:List ZX)(q:Rat):vt C q≤C.length:=by
 have:=D1 (oL C q.num q.den)
 rw [D5]at this
 simpa [oL]using this
theorem aew{n d:Int}(h:d≠0):dR n d=(n:Rat)/d:=by rw [dR,if_neg h,Rat.divInt_eq_div]
theorem KI{n d:Int}(h:d≠0){q:Rat}(e:(n:Rat)=q*d):dR n d=q:=by
 have hd:(d:Rat)≠0:=fun h0=>h (Rat.intCast_eq_zero_iff.1 h0)
 rw [aew h,e,Rat.mul_div_cancel hd]
theorem xB(q:Rat):((q.num:Int):Rat)=q*((q.den:Int):Rat):=by
 have hd:(0:Rat)<((q.den:Int):Rat):=Rat.intCast_pos.2 (by have:=q.den_pos;omega)
 have h1:q=(q.num:Rat)/((q.den:Int):Rat):=by
  rw [←Rat.divInt_eq_div,Rat.num_divInt_den]
 have h2:=Rat.div_mul_cancel (a:=(q.num:Rat)) (Rat.ne_of_gt hd)
 rw [←h1]at h2
 exact h2.symm
theorem aio{n d:Int}(hn:sz LL n<1099511627770)(hd:sz LL d<1099511627770)(h0:d≠0):aE env.P 146 [I n,I d] (.dU [RT (dR n d), .int .i64 0]):=by
 have n1:=JB (x:=d) (by show _<_;omega)
 have n2:=JB (x:=n) (by show _<_;omega)
 have z1:=HF d
 have l1:=qO hn hd h0
 rw [show decide (d=0)=false from decide_eq_false h0]at z1
 show aE env.P _ _ (.dU [T2 (dR n d).num (dR n d).den,_])
 replace l1:aE env.P 169 [I n,I d] (T2 (dR n d).num (dR n d).den):=l1
 generalize (dR n d).num=rn at *
 generalize ((dR n d).den:Int)=rd at *
 refine cD [(0,I n),(1,I d)] Tryz.func146 ?_
 refine aA [2,3,4] ?_
 refine W.seq ?_
 refine aR [2,3,4] n1 ?_
 refine aR [2,3,4,9] z1 ?_
 refine bJ ?_ ?_<;>intro h
 ·simp at h
 refine W.skip ?_
 refine W.sd ?_
 simp (maxSteps:=4000000) (disch:=omega) [gw]
 refine aC n2 ?_
 simp (maxSteps:=4000000) (disch:=omega) [gw]
 refine aC l1 ?_
 simp (maxSteps:=4000000) (disch:=omega) [gw]
 (try (refine bA (of_decide_eq_true (by kernel_rfl)) ?_));(try simp (maxSteps:=4000000) (disch:=omega) [gw]);(repeat rw [if_pos (by kernel_rfl)]);(try simp (maxSteps:=4000000) (disch:=omega) [gw])
 refine bH [4,5] ?_
 exact cC
theorem aoF(p q:Rat):dR (p.num*q.den+q.num*p.den) (p.den*q.den*2)=(p+q)/2:=by
 have h1:((p.den:Int)*q.den*2)≠0:=by
  have:=p.den_nz;have:=q.den_nz
  refine Int.mul_ne_zero (Int.mul_ne_zero ?_ ?_) (by decide)<;>omega
 refine KI h1 ?_
 rw [Rat.intCast_add,Rat.intCast_mul,Rat.intCast_mul,Rat.intCast_mul,Rat.intCast_mul,xB p,xB q]
 have h2:(p+q)/2*2=p+q:=Rat.div_mul_cancel (by decide)
 show _=(p+q)/2*(((p.den:Int):Rat)*((q.den:Int):Rat)*2)
 generalize (p+q)/2=m at *
 grind
theorem O6{p q:Rat}{k:Nat}(hp:sz LL p.num≤k∧sz LL (p.den:Int)≤k)(hq:sz LL q.num≤k∧sz LL (q.den:Int)≤k)(hk:k≤300000000000):aE env.P 91 [RT p,RT q] (RT ((p+q)/2)):=by
 have c1:=yI hp.1 hp.2 hq.1 hq.2 (by omega) (aY p) (aY q) hp hq
 have g1:=cG (b:=LL) gF hp.1 hq.2
 have g2:=cG (b:=LL) gF hq.1 hp.2
 have g3:=cG (b:=LL) gF hp.2 hq.2
 have s2:sz LL 2≤1:=dY (k:=1) gF (by decide)
 have g4:=cG (b:=LL) gF g3 s2
 have g5:=nJ (b:=LL) gF (Nat.le_trans g1 (show k+k≤k+k from Nat.le_refl _)) (Nat.le_trans g2 (show k+k≤k+k from Nat.le_refl _))
 have a1:=VH (x:=p.num*q.den) (y:=q.num*p.den) (by show _<_;omega) (by show _<_;omega)
 have o1:=C4 2 (by decide) (by decide)
 have m1:=wJ (x:=(p.den:Int)*q.den) (y:=2) (by show _<_;omega) (by show _<_;omega)
 have h1:((p.den:Int)*q.den*2)≠0:=by
  have:=p.den_nz;have:=q.den_nz
  refine Int.mul_ne_zero (Int.mul_ne_zero ?_ ?_) (by decide)<;>omega
 have l1:=qO (n:=p.num*q.den+q.num*p.den) (d:=p.den*q.den*2) (by omega) (by omega) h1
 rw [aoF]at l1
 show aE env.P _ [T2 p.num p.den,T2 q.num q.den] (T2 ((p+q)/2).num ((p+q)/2).den)
 replace l1:aE env.P 169 [I (p.num*q.den+q.num*p.den),I (p.den*q.den*2)] (T2 ((p+q)/2).num ((p+q)/2).den):=l1
 clear g1 g2 g3 g4 g5 h1 hp hq
 generalize ((p+q)/2).num=rn at *
 generalize (((p+q)/2).den:Int)=rd at *
 generalize p.num*(q.den:Int)+q.num*p.den=x4 at *
 generalize (p.den:Int)*q.den*2=x5 at *
 generalize p.num*(q.den:Int)=x1 at *
 generalize q.num*(p.den:Int)=x2 at *
 generalize (p.den:Int)*(q.den:Int)=x3 at *
 generalize p.num=pn at *
 generalize (p.den:Int)=pd at *
 generalize q.num=qn at *
 generalize (q.den:Int)=qd at *
 refine cD [(0,T2 pn pd),(1,T2 qn qd)] Tryz.func91 ?_
 refine aA [2,3,4] ?_
 refine aR [4,5,6,7] c1 ?_
 refine W.sd ?_
 simp (maxSteps:=4000000) (disch:=omega) [gw]
 refine aC a1 ?_
 simp (maxSteps:=4000000) (disch:=omega) [gw]
 refine aC o1 ?_
 simp (maxSteps:=4000000) (disch:=omega) [gw]
 refine aC m1 ?_
 simp (maxSteps:=4000000) (disch:=omega) [gw]
 refine aC l1 ?_
 simp (maxSteps:=4000000) (disch:=omega) [gw]
 (try (refine bA (of_decide_eq_true (by kernel_rfl)) ?_));(try simp (maxSteps:=4000000) (disch:=omega) [gw]);(repeat rw [if_pos (by kernel_rfl)]);(try simp (maxSteps:=4000000) (disch:=omega) [gw])
 refine bH [4] ?_
 exact cC
theorem aaw{p:Rat}(hp:sz LL p.num<1099511627770∧sz LL (p.den:Int)<1099511627770):aE env.P 73 [RT p] (RT (-p)):=by
 have n1:=nC hp.1 hp.2
 rw [aY]at n1
 have n2:=acQ (x:=p.num) (by show _<_;omega)
 replace n1:aE env.P 147 [T2 p.num p.den] (T2 p.num p.den):=n1
 show aE env.P _ [T2 p.num p.den] (T2 (-p).num (-p).den)
 rw [Rat.neg_num,Rat.neg_den]
 generalize -p.num=rn at *
 generalize p.num=pn at *
 generalize (p.den:Int)=pd at *
 refine cD [(0,T2 pn pd)] Tryz.func73 ?_
 refine aA [1,2] ?_
 refine aR [1,2] n1 ?_
 refine aR [1,2] n2 ?_
 refine aA [2] ?_
 exact cC
theorem aex{d:Int}(h:sz LL d<4294967296):aE env.P 156 [I d] (RI d):=by
 have h1:=GK (decide (d<0)) (aS LL d.natAbs) (by have:sz LL d=(aS LL d.natAbs).length:=rfl;omega) (fI gF _)
 rw [show iv (decide (d<0)) (aS LL d.natAbs)=d from M7 d]at h1
 exact h1
theorem aax{p:Rat}(hp:sz LL p.num<4294967296∧sz LL (p.den:Int)<4294967296)(hY:Y p.num∧Y (p.den:Int)):aE env.P 82 [RT p] (RR p):=by
 have f1:=aex hp.1
 have f2:=aex hp.2
 have m1:=kT p.num p.den hY.1 hY.2
 rw [aY,gC]at m1
 rw [gC]
 show aE env.P _ [T2 p.num p.den] _
 replace f1:aE env.P 156 [I p.num] (RI p.num):=f1
 replace f2:aE env.P 156 [I (p.den:Int)] (RI (p.den:Int)):=f2
 generalize p.num=pn at *
 generalize (p.den:Int)=pd at *
 refine cD [(0,T2 pn pd)] Tryz.func82 ?_
 refine aA [1,2] ?_
 refine W.sd ?_
 simp (maxSteps:=4000000) (disch:=omega) [gw]
 refine aC f1 ?_
 simp (maxSteps:=4000000) (disch:=omega) [gw]
 refine aC f2 ?_
 simp (maxSteps:=4000000) (disch:=omega) [gw]
 refine aC m1 ?_
 simp (maxSteps:=4000000) (disch:=omega) [gw]
 (try (refine bA (of_decide_eq_true (by kernel_rfl)) ?_));(try simp (maxSteps:=4000000) (disch:=omega) [gw]);(repeat rw [if_pos (by kernel_rfl)]);(try simp (maxSteps:=4000000) (disch:=omega) [gw])
 refine bH [2] ?_
 exact cC
theorem akR{x:Int}(hx:Sz x):aE env.P 143 [I x] (I (x.natAbs:Int)):=by
 have h1:=adu (decide (x<0)) (aS LL x.natAbs) hx.VG
 rw [show V 4294967296 (aS LL x.natAbs)=(x.natAbs:Int)from kP gF _]at h1
 exact h1
def pY(x:List Int):Nat→Int
 | 0=>0
 | i+1=>if pY x i<((nth x i).natAbs:Int)then((nth x i).natAbs:Int)else pY x i
theorem aey(x:List Int):∀i,0≤pY x i
 | 0=>Int.le_refl _
 | i+1=>by
  have:=aey x i
  rw [pY];split<;>omega
theorem aez(x:List Int):∀i k,k<i→((nth x k).natAbs:Int)≤pY x i
 | 0,k,h=>by omega
 | i+1,k,h=>by
  rw [pY]
  by_cases hk:k=i
  ·subst hk;split<;>omega
  ·have:=aez x i k (by omega)
   split<;>omega
theorem D6{b s n:Nat}{x:List Int}(h:Bd b s n x):∀i,Pm.sz b (pY x i)≤s
 | 0=>by show Pm.sz b 0≤s;rw [kR];omega
 | i+1=>by
  have ih:=D6 h i
  have h1:=h.nth i
  have h2:Pm.sz b ((nth x i).natAbs:Int)=Pm.sz b (nth x i):=by unfold Pm.sz;rw [Int.natAbs_natCast]
  rw [pY];split
  ·rw [h2];exact h1
  ·exact ih
def iC(x:List Int):Rat:=dR (((lead x).natAbs:Int)+pY x (x.length-1)) ((lead x).natAbs:Int)
theorem TO{α:Type}{g:α→List PV}{l:List α}{s n:Nat}{x:List Int}(hN:aE env.P 64 [aJ g l] (Po x))(cx:Cn x)(hx:x ≠ [])(b:Bd LL s n x)(hs:s<500000000000)(hn:n<500000000000):aE env.P 71 [aJ g l] (.dU [RT (iC x), .int .i64 0]):=by
 have pM:0<x.length:=List.length_pos_iff.2 hx
 have hlen:=b.len
 have LQ:=dC cx pM
 have L1:=lP (PB.of b (by omega) (by omega)) cx
 have hld:=gT b
 have A1:=akR (x:=lead x) (Nat.lt_of_le_of_lt hld (by omega))
 have aoG:sz LL ((lead x).natAbs:Int)≤s:=Nat.le_trans (dP gF (by simp)) hld
 have hm:=D6 b (x.length-1)
 have S1:=VH (x:=((lead x).natAbs:Int)) (y:=pY x (x.length-1)) (Nat.lt_of_le_of_lt aoG (by omega)) (Nat.lt_of_le_of_lt hm (by omega))
 have aAr:=nJ (b:=LL) gF aoG hm
 have M1:=aio (n:=((lead x).natAbs:Int)+pY x (x.length-1)) (d:=((lead x).natAbs:Int)) (by omega) (by omega) (by omega)
 replace M1:aE env.P 146 [I (((lead x).natAbs:Int)+pY x (x.length-1)),I ((lead x).natAbs:Int)] (.dU [T2 (iC x).num (iC x).den, .int .i64 0]):=M1
 show aE env.P _ _ (.dU [T2 (iC x).num (iC x).den,_])
 have C1:∀i,i<x.length→aE env.P 143 [I (nth x i)] (I ((nth x i).natAbs:Int))∧aE env.P 144 [I ((nth x i).natAbs:Int),I (pY x i)] (.int .i64 (dI ((nth x i).natAbs:Int) (pY x i))):=fun i hi=>by
  have h1:=b.nth i
  have h2:sz LL ((nth x i).natAbs:Int)≤s:=Nat.le_trans (dP gF (by simp)) h1
  exact⟨akR (Nat.lt_of_le_of_lt h1 (by omega)),VI (Nat.lt_of_le_of_lt h2 (by omega)) (Nat.lt_of_le_of_lt (D6 b i) (by omega))⟩
 have hmx:∀i,pY x (i+1)=if 0<dI ((nth x i).natAbs:Int) (pY x i)then((nth x i).natAbs:Int)else pY x i:=fun i=>by
  rw [pY]
  by_cases h:pY x i<((nth x i).natAbs:Int)
  ·rw [if_pos h,if_pos (pI.2 h)]
  ·rw [if_neg h,if_neg (fun q=>h (pI.1 q))]
 have h0:pY x 0=0:=rfl
 clear hm aAr aoG hld
 generalize (iC x).num=rn at *
 generalize ((iC x).den:Int)=rd at *
 generalize ((lead x).natAbs:Int)+pY x (x.length-1)=sm at *
 generalize ((lead x).natAbs:Int)=la at *
 generalize pY x=mf at *
 have e1:((x.length:Int)-1).toNat=x.length-1:=by omega
 have e2:(x.length:Int)-1=((x.length-1:Nat):Int):=by omega
 refine cD [(0,aJ g l)] Tryz.func71 ?_
 refine aA [0,2] ?_
 refine aR [0,2] hN ?_
 refine aQ [0,2,13] ?_
 refine bJ ?_ ?_<;>intro h
 ·simp at h;exact absurd h hx
 refine W.skip ?_
 refine aA [0,2,4] ?_
 refine W.row (id:=4) (els:=[[.bool false, .nil]]) [[.bool (decide ((0:Int)<0)),us (aS LL (0:Int).natAbs)]] (by simp;first | exact⟨rfl,rfl,rfl⟩ | exact⟨rfl,rfl⟩ | rfl) ⟨⟨.inl rfl, .inr ⟨rfl,rfl⟩,trivial⟩,trivial⟩ ?_
 refine W.seq ?_
 refine W.sr ?_
 simp (disch:=omega) [gw,e1,e2]
 refine bH [0,2,4,19,20,21] ?_
 refine W.block ?_
 refine W.bE (fun k σ=>∃(v2 e2 v4 e4 i:Nat) (rows:Pm.Rows) (clk:Nat),σ=⟨fa [(0,Po x),(2, .ptr 2 v2 0 0),(4, .ptr 4 v4 0 0),(19,aJ ie (x.take (x.length-1))),(20, .int .i64 ((x.length-1:Nat):Int)),(21, .int .i64 i)],rows,clk⟩∧i+k=x.length-1 ∧
  rows 2=some ⟨v2,e2,4,[[.bool false, .nil, .bool false, .nil]]⟩∧rows 4=some ⟨v4,e4,2,[[.bool (decide (mf i<0)),us (aS LL (mf i).natAbs)]]⟩) (x.length-1) ?_ ?_
 ·exact⟨_, .refl,_,_,_,_,0,_,_,rfl,by omega,by simp;(first | exact⟨rfl,rfl⟩ | rfl),by rw [h0];simp;(first | exact⟨rfl,rfl⟩ | rfl)⟩
 rintro k _ ⟨v2,e2,v4,e4,i,rows,clk,rfl,zH,bX,c9⟩
 refine bU [0,2,4,19,20,21,22] ?_
 refine bJ ?_ ?_<;>intro h
 ·have hi:i<x.length-1:=by simp at h;omega
  have hi2:i<x.length:=by omega
  have xN:nth (x.take (x.length-1)) i=nth x i:=by unfold nth;rw [List.getElem?_take_of_lt hi]
  obtain⟨c1,c2⟩:=C1 i hi2
  have hm:=hmx i
  generalize dI ((nth x i).natAbs:Int) (mf i)=cv at *
  generalize ((nth x i).natAbs:Int)=ab at *
  generalize nth x i=xi at *
  refine W.skip ?_
  refine W.dO (fun σ=>∃(v2 e2 v4 e4:Nat) (rows:Pm.Rows) (clk:Nat),σ=⟨fa [(0,Po x),(2, .ptr 2 v2 0 0),(4, .ptr 4 v4 0 0),(19,aJ ie (x.take (x.length-1))),(20, .int .i64 ((x.length-1:Nat):Int)),(21, .int .i64 i)],rows,clk⟩ ∧
   rows 2=some ⟨v2,e2,4,[[.bool false, .nil, .bool false, .nil]]⟩∧rows 4=some ⟨v4,e4,2,[[.bool (decide (mf (i+1)<0)),us (aS LL (mf (i+1)).natAbs)]]⟩) ?_ ?_
  ·refine W.sr ?_
   simp (disch:=omega) [gw,hi,xN]
   refine bH [0,2,4,6,19,20,21] ?_
   refine aR [0,2,4,7,19,20,21] c1 ?_
   refine W.sr ?_
   simp (disch:=omega) [gw,c9]
   refine cN [0,2,4,7,19,20,21,30] c2 ?_
   refine bJ ?_ ?_<;>intro h
   ·have h:0<cv:=by simpa using h
    rw [if_pos h]at hm
    refine W.b7 (fun K hK=>?_);simp (disch:=omega) [gw,c9]
    exact hK _ ⟨_,aB _ [0,2,4,19,20,21],_,_,_,_,_,_,rfl,by simp [bX];exact rfl,by simp [hm];exact rfl⟩
   ·have h:¬0<cv:=by simpa using h
    rw [if_neg h]at hm
    refine W.skip ?_
    exact⟨_,aB _ [0,2,4,19,20,21],_,_,_,_,_,_,rfl,by simp [bX];exact rfl,by simp [hm,c9];exact rfl⟩
  rintro _ ⟨v2,e2,v4,e4,rows,clk,rfl,bX,c9⟩
  refine W.b7 (fun K hK=>?_);simp (disch:=omega) [gw]
  refine hK _ ⟨k-1,_,aB _ [0,2,4,19,20,21],by omega,_,_,_,_,i+1,_,_,rfl,by omega,bX,c9⟩
 ·have hi:i=x.length-1:=by simp at h;omega
  subst hi
  refine fA ?_
  refine jC ?_
  refine cS L1 ?_
  refine cN [2,4,8] A1 ?_
  refine W.sd ?_
  simp (disch:=omega) [gw,c9]
  refine aC S1 ?_
  simp (maxSteps:=4000000) (disch:=omega) [gw]
  refine aC M1 ?_
  simp (disch:=omega) [gw,bX]
  (try (refine bA (of_decide_eq_true (by kernel_rfl)) ?_));(try simp (maxSteps:=4000000) (disch:=omega) [gw,bX]);(repeat rw [if_pos (by kernel_rfl)]);(try simp (maxSteps:=4000000) (disch:=omega) [gw,bX])
  refine bH [2,3] ?_
  exact cC
theorem KJ{x:List Int}(cx:Cn x)(hx:x ≠ []):iC x=1+((pY x (x.length-1):Int):Rat)/(((lead x).natAbs:Int):Rat):=by
 have LQ:=dC cx (List.length_pos_iff.2 hx)
 have h1:((lead x).natAbs:Int)≠0:=by omega
 have h2:(((lead x).natAbs:Int):Rat)≠0:=fun h=>h1 (Rat.intCast_eq_zero_iff.1 h)
 refine KI h1 ?_
 rw [Rat.intCast_add]
 have h3:=Rat.div_mul_cancel (a:=((pY x (x.length-1):Int):Rat)) h2
 generalize ((pY x (x.length-1):Int):Rat)/(((lead x).natAbs:Int):Rat)=w at *
 grind
end Go.Proofs.YtiobceocpabjdaaGreat
namespace Pm
theorem aeA:∀(n:Nat) (f:Nat→Nat),(∀k,k≤n→f k<n) → ∃i j,i<j∧j≤n∧f i=f j
 | 0,f,h=>absurd (h 0 (Nat.le_refl _)) (by omega)
 | n+1,f,h=>by
  by_cases hx:∃i,i≤n∧f i=f (n+1)
  ·obtain⟨i,hi,e⟩:=hx
   exact⟨i,n+1,by omega,Nat.le_refl _,e⟩
  ·have mZ:∀i,i≤n→f i≠f (n+1):=fun i hi e=>hx ⟨i,hi,e⟩
   have hm:=h (n+1) (Nat.le_refl _)
   obtain⟨i,j,hij,hj,e⟩:=aeA n (fun k=>if f k=n then f (n+1)else f k) (fun k hk=>by
    have h1:=h k (by omega)
    have h2:=mZ k hk
    show(if f k=n then f (n+1)else f k)<n
    split<;>omega)
   refine⟨i,j,hij,by omega,?_⟩
   have h1:=mZ i (by omega)
   have h2:=mZ j hj
   have e':(if f i=n then f (n+1)else f i)=(if f j=n then f (n+1)else f j):=e
   split at e'<;>split at e'<;>omega
def ER(b:Nat):Nat→Nat→List Int
 | 0,_=>[]
 | n+1,k=>((k%b:Nat):Int)::ER b n (k/b)
theorem xC(b:Nat):∀n k,(ER b n k).length=n
 | 0,_=>rfl
 | n+1,k=>by rw [ER,List.length_cons,xC b n]
theorem KK{b:Nat}(hb:0<b):∀n k,∀c∈ER b n k,0≤c∧c<b
 | 0,_,c,h=>by cases h
 | n+1,k,c,h=>by
  rcases List.mem_cons.1 h with rfl | h
  ·have:=Nat.mod_lt k hb;omega
  ·exact KK hb n _ c h
theorem KL{b:Nat}(hb:0<b):∀n k m,k<b^n→m<b^n→ER b n k=ER b n m→k=m
 | 0,k,m,h1,h2,_=>by simp at h1 h2;omega
 | n+1,k,m,h1,h2,h=>by
  rw [ER,ER]at h
  injection h with h3 h4
  rw [Nat.pow_succ]at h1 h2
  have h5:=KL hb n (k/b) (m/b) ((Nat.div_lt_iff_lt_mul hb).2 h1) ((Nat.div_lt_iff_lt_mul hb).2 h2) h4
  have h6:=Nat.div_add_mod k b
  have h7:=Nat.div_add_mod m b
  rw [h5]at h6
  omega
def TP(R:Nat):List Nat→Nat
 | []=>0
 | x::l=>x+R*TP R l
theorem aeB{R:Nat}:∀l:List Nat,(∀x∈l,x<R)→TP R l<R^l.length
 | [],_=>by simp [TP]
 | x::l,h=>by
  have h1:=aeB l fun y hy=>h y (List.mem_cons_of_mem _ hy)
  have h2:=h x (List.mem_cons_self ..)
  rw [TP,List.length_cons,Nat.pow_succ]
  have h3:R*(TP R l+1)≤R*R^l.length:=Nat.mul_le_mul_left _ h1
  rw [Nat.mul_add]at h3
  rw [Nat.mul_comm (R^_)]
  omega
theorem W6{R:Nat}:∀l m:List Nat,l.length=m.length→(∀x∈l,x<R)→(∀x∈m,x<R)→TP R l=TP R m→l=m
 | [],[],_,_,_,_=>rfl
 | [],_::_,h,_,_,_=>by simp at h
 | _::_,[],h,_,_,_=>by simp at h
 | x::l,y::m,hl,h1,h2,e=>by
  rw [TP,TP]at e
  have hx:=h1 x (List.mem_cons_self ..)
  have hy:=h2 y (List.mem_cons_self ..)
  have e1:(x+R*TP R l)%R=(y+R*TP R m)%R:=by rw [e]
  rw [Nat.add_mul_mod_self_left,Nat.add_mul_mod_self_left,Nat.mod_eq_of_lt hx,Nat.mod_eq_of_lt hy]at e1
  subst e1
  have e2:R*TP R l=R*TP R m:=by omega
  have e3:=Nat.eq_of_mul_eq_mul_left (by omega) e2
  rw [W6 l m (by simpa using hl) (fun z hz=>h1 z (List.mem_cons_of_mem _ hz)) (fun z hz=>h2 z (List.mem_cons_of_mem _ hz)) e3]
theorem sN{X Y:Nat}:∀(x y:List Int),(∀c∈x,c.natAbs≤X)→(∀i,(nth y i).natAbs≤Y) → ∀i,(nth (bR x y) i).natAbs≤x.length*(X*Y)
 | [],y,_,_,i=>by
  rw [show bR [] y = []from rfl,pL];simp
 | k::x,y,hx,hy,i=>by
  have hk:=hx k (List.mem_cons_self ..)
  have ih:=sN x y (fun c hc=>hx c (List.mem_cons_of_mem _ hc)) hy
  have h1:∀j,(nth y j*k).natAbs≤X*Y:=fun j=>by
   rw [Int.natAbs_mul,Nat.mul_comm]
   exact Nat.mul_le_mul hk (hy j)
  rw [List.length_cons,Nat.add_mul,Nat.one_mul]
  cases i with
  | zero =>
   rw [r8]
   have:=h1 0;omega
  | succ i =>
   rw [nK]
   have h2:=h1 (i+1)
   have h3:=ih i
   have h4:=Int.natAbs_add_le (nth y (i+1)*k) (nth (bR x y) i)
   omega
theorem TQ{A:Nat}{y:List Int}(h:∀c∈y,c.natAbs≤A)(i:Nat):(nth y i).natAbs≤A:=by
 rcases Nat.lt_or_ge i y.length with h1 | h1
 ·exact h _ (bN h1)
 ·rw [iI h1];exact Nat.zero_le _
namespace ZX
theorem KM(x y:ZX)(i:Nat):nth (x-y).l i=nth x.l i-nth y.l i:=by
 have h:x=(x-y)+y:=by grind
 have h2:nth x.l i=nth ((x-y)+y).l i:=by rw [←h]
 rw [show((x-y)+y).l=iJ (x-y).l y.l from rfl,wD]at h2
 omega
theorem aip{a b v:ZX}(ha:a≠0)(hc:∀d,dv d a→dv d b→N d≤1)(h:dv a (v*b)):dv a v:=by
 obtain⟨g,hg⟩:=jW _ a b (Nat.le_refl _)
 have h0:=hg.ne (.inl ha)
 have h1:=hc g hg.l hg.r
 have h2:=ZX.aF.1 h0
 obtain⟨k,hk,rfl⟩:=lJ (show N g=1 by omega)
 obtain⟨c,xY,u',v',e⟩:=hg.uv
 rw [pS]at e
 refine dv.FE (Int.mul_ne_zero xY hk) ?_
 rw [e,show(u'*a+v'*b)*v=(u'*v)*a+v'*(v*b)by grind]
 exact((dv.refl a).mul_left _).add (h.mul_left _)
theorem W7{l:List Int}{n:Nat}(h:l.length≤n):N (of l)≤n:=Nat.le_trans (bV l) h
theorem KN{x:ZX}{n:Nat}(hN:N x≤n+1)(h:∀i,i<n→nth x.l (i+1)=0):∃c:Int,x=K c:=by
 rcases Nat.lt_or_ge (N x) 2 with h1 | h1
 ·rcases Nat.eq_zero_or_pos (N x)with h2 | h2
  ·refine⟨0,?_⟩
   have:x=0:=Classical.byContradiction fun h0=>by have:=ZX.aF.1 h0;omega
   rw [this];rfl
  ·obtain⟨c,_,e⟩:=lJ (show N x=1 by omega)
   exact⟨c,e⟩
 ·exfalso
  have h2:lead x.l≠0:=dC x.c (show 0<N x by omega)
  refine h2 ?_
  have h3:=h (N x-2) (by omega)
  rw [show N x-2+1=x.l.length-1 from by show N x-2+1=N x-1;omega]at h3
  exact h3
theorem KP(l:List Int)(i:Nat):nth (of l).l i=nth l i:=jD l i
theorem aoH{a b:ZX}{s r l X:Nat}(ha:a≠0)(hb:b≠0)(hA:∀c∈a.l,c.natAbs≤2^s)(hB:∀c∈b.l,c.natAbs≤2^r)(hl:N a+N b≤2^l)(hc:∀d,dv d a→dv d b→N d≤1)(hX:(l+2)*(N a+N b)+s*N b+r*N a≤X) :
  ∃(u v:ZX) (c:Int),c≠0∧u*a+v*b=K c∧N u≤N b∧N v≤N a∧(∀c∈u.l,c.natAbs≤2^(X-s)) ∧ ∀c∈v.l,c.natAbs≤2^(X-r):=by
 have na:=ZX.aF.1 ha
 have nb:=ZX.aF.1 hb
 obtain⟨p,hp⟩:∃p,N a=p+1:=⟨N a-1,by omega⟩
 obtain⟨q,hq⟩:∃q,N b=q+1:=⟨N b-1,by omega⟩
 have hsX:s≤X:=by rw [hq,Nat.mul_add s]at hX;omega
 have hrX:r≤X:=by rw [hp,Nat.mul_add r]at hX;omega
 rcases Nat.lt_or_ge 2 (N a+N b)with hm | hm
 ·obtain⟨m,hmm⟩:∃m,p+q=m+1:=⟨p+q-1,by omega⟩
  obtain⟨U,hU⟩:∃U,U=2^(X-s):=⟨_,rfl⟩
  obtain⟨V,hV⟩:∃V,V=2^(X-r):=⟨_,rfl⟩
  have hUA:U*2^s=2^X:=by rw [hU,←Nat.pow_add];congr 1;omega
  have hVB:V*2^r=2^X:=by rw [hV,←Nat.pow_add];congr 1;omega
  rw [←hU,←hV]
  let P:=(U+1)^q
  have hPp:0<P:=Nat.pow_pos (Nat.succ_pos _)
  have hQp:0<(V+1)^p:=Nat.pow_pos (Nat.succ_pos _)
  let W:=(m+1)*2^X
  let uu:=fun k:Nat=>of (ER (U+1) q (k%P))
  let vv:=fun k:Nat=>of (ER (V+1) p (k/P))
  let L:=fun k:Nat=>uu k*a+vv k*b
  have ahI:∀B n k,∀c∈ER (B+1) n k,c.natAbs≤B:=fun B n k c hc=>by
   have:=KK (Nat.succ_pos B) _ _ c hc
   omega
  have hu:∀k,∀c∈(uu k).l,c.natAbs≤U:=fun k c hc=>ahI _ _ _ c (pK _ _ hc)
  have hv:∀k,∀c∈(vv k).l,c.natAbs≤V:=fun k c hc=>ahI _ _ _ c (pK _ _ hc)
  have hNu:∀k,N (uu k)≤q:=fun k=>W7 (by rw [xC];exact Nat.le_refl _)
  have hNv:∀k,N (vv k)≤p:=fun k=>W7 (by rw [xC];exact Nat.le_refl _)
  have hW:∀k i,(nth (L k).l i).natAbs≤W:=fun k i=>by
   have e:(L k).l=iJ (bR (uu k).l a.l) (bR (vv k).l b.l):=rfl
   rw [e,wD]
   have h1:=sN (uu k).l a.l (hu k) (TQ hA) i
   have h2:=sN (vv k).l b.l (hv k) (TQ hB) i
   rw [hUA]at h1
   rw [hVB]at h2
   have h4:=Int.natAbs_add_le (nth (bR (uu k).l a.l) i) (nth (bR (vv k).l b.l) i)
   have h5:(uu k).l.length*2^X+(vv k).l.length*2^X≤W:=by
    rw [←Nat.add_mul]
    refine Nat.mul_le_mul_right _ ?_
    have h4:N (uu k)≤q:=hNu k
    have h5:N (vv k)≤p:=hNv k
    show N (uu k)+N (vv k)≤m+1
    omega
   omega
  let im:=fun k:Nat=>(List.range m).map fun i=>(nth (L k).l (i+1)+W).toNat
  have him:∀k,∀x∈im k,x<2*W+1:=fun k x hx=>by
   simp only [im,List.mem_map]at hx
   obtain⟨i,_,rfl⟩:=hx
   have:=hW k (i+1)
   omega
  have aAs:(2*W+1)^m<P*(V+1)^p:=by
   have h1:2*W+1≤2^(X+l+2):=by
    have h2:(m+1)*2^X≤2^l*2^X:=Nat.mul_le_mul_right _ (by omega)
    have h3:2^(X+l+2)=2^l*2^X*4:=by rw [Nat.pow_add,Nat.pow_add,Nat.mul_comm (2^X)]
    have h4:1≤2^l*2^X:=Nat.mul_pos (Nat.two_pow_pos _) (Nat.two_pow_pos _)
    simp only [W]
    omega
   have h2:=Nat.pow_le_pow_left h1 m
   rw [←Nat.pow_mul]at h2
   have h3:2^((X-s)*q+(X-r)*p)≤P*(V+1)^p:=by
    rw [Nat.pow_add,Nat.pow_mul,Nat.pow_mul,←hU,←hV]
    exact Nat.mul_le_mul (Nat.pow_le_pow_left (Nat.le_succ _) _) (Nat.pow_le_pow_left (Nat.le_succ _) _)
   refine Nat.lt_of_le_of_lt h2 (Nat.lt_of_lt_of_le (Nat.pow_lt_pow_right (by decide) ?_) h3)
   rw [hp,hq]at hX
   rw [Nat.sub_mul,Nat.sub_mul]
   have e1:X*q+X*p=X*m+X:=by rw [←Nat.mul_add,show q+p=m+1 by omega,Nat.mul_add,Nat.mul_one]
   have e2:s*q≤X*q:=Nat.mul_le_mul_right _ hsX
   have e3:r*p≤X*p:=Nat.mul_le_mul_right _ hrX
   have e4:(X+l+2)*m=X*m+(l+2)*m:=by rw [Nat.add_assoc,Nat.add_mul]
   have e5:(l+2)*(p+1+(q+1))=(l+2)*m+(l+2)*3:=by rw [←Nat.mul_add];congr 1;omega
   have e6:s*(q+1)=s*q+s:=Nat.mul_succ _ _
   have e7:r*(p+1)=r*p+r:=Nat.mul_succ _ _
   omega
  obtain⟨n,hn⟩:∃n,P*(V+1)^p=n+1:=⟨P*(V+1)^p-1,by have:=Nat.mul_pos hPp hQp;omega⟩
  obtain⟨i,j,hij,hj,e⟩:=aeA n (fun k=>TP (2*W+1) (im k)) (fun k hk=>by
   have h1:=aeB (im k) (him k)
   rw [show(im k).length=m by simp [im]]at h1
   show TP (2*W+1) (im k)<n
   omega)
  have e2:=W6 (im i) (im j) (by simp [im]) (him i) (him j) e
  have e3:∀s,s<m→nth (L i).l (s+1)=nth (L j).l (s+1):=fun s hs=>by
   have h1:(im i)[s]? = (im j)[s]? := by rw [e2]
   simp only [im,List.getElem?_map,List.getElem?_range hs,Option.map_some]at h1
   injection h1 with h1
   have:=hW i (s+1)
   have:=hW j (s+1)
   omega
  have hNL:∀x y:ZX,N x≤q→N y≤p→N (x*a+y*b)≤m+1:=fun x y hx hy=>by
   have h1:N (x*a+y*b)≤max (N (x*a)) (N (y*b)):=CV _ _
   have h2:N (x*a)≤N x+N a-1:=r7 (x:=x.l) (y:=a.l) na
   have h3:N (y*b)≤N y+N b-1:=r7 (x:=y.l) (y:=b.l) nb
   omega
  have XS:N (uu i-uu j)≤q:=by
   have h1:N (uu i-uu j)≤max (N (uu i)) (N (uu j)):=wB _ _
   have:=hNu i;have:=hNu j;omega
  have hv':N (vv i-vv j)≤p:=by
   have h1:N (vv i-vv j)≤max (N (vv i)) (N (vv j)):=wB _ _
   have:=hNv i;have:=hNv j;omega
  have eL:(uu i-uu j)*a+(vv i-vv j)*b=L i-L j:=by simp only [L];grind
  obtain⟨c,hcc⟩:=KN (x:=(uu i-uu j)*a+(vv i-vv j)*b) (n:=m) (hNL _ _ XS hv') (fun s hs=>by
   rw [eL,KM,e3 s hs];omega)
  have o8:∀(B n k k':Nat),∀c∈(of (ER (B+1) n k)-of (ER (B+1) n k')).l,c.natAbs≤B:=fun B n k k' c hc=>by
   obtain⟨s,hs,rfl⟩:=List.getElem_of_mem hc
   rw [←bW hs,KM,KP,KP]
   have h3:∀k,0≤nth (ER (B+1) n k) s∧nth (ER (B+1) n k) s<((B+1:Nat):Int):=fun k=>by
    rcases Nat.lt_or_ge s (ER (B+1) n k).length with h4 | h4
    ·exact KK (Nat.succ_pos B) _ _ _ (bN h4)
    ·rw [iI h4];exact⟨by decide,by show(0:Int)<_;omega⟩
   have:=h3 k
   have:=h3 k'
   omega
  refine⟨uu i-uu j,vv i-vv j,c,fun h0=>?_,hcc,by omega,by omega,o8 _ _ _ _,o8 _ _ _ _⟩
  rw [h0,show K 0=(0:ZX)from rfl]at hcc
  have hvz:vv i-vv j=0:=Classical.byContradiction fun mZ=>by
   have h1:dv a (vv i-vv j):=aip ha hc (b:=b) ⟨1,by decide, -(uu i-uu j),by
    show(1:ZX)*_=_
    have:(vv i-vv j)*b = -((uu i-uu j)*a):=by grind
    rw [this];grind⟩
   have:=h1.nQ mZ
   omega
  have huz:uu i-uu j=0:=Classical.byContradiction fun mZ=>by
   have h1:(uu i-uu j)*a=0:=by rw [hvz]at hcc;grind
   exact oW mZ ha h1
  have hd:∀(B n k k':Nat),of (ER (B+1) n k)-of (ER (B+1) n k')=0→ER (B+1) n k=ER (B+1) n k':=fun B n k k' h0=>by
   refine List.ext_getElem (by rw [xC,xC]) fun s hs AQ=>?_
   have h3:=KM (of (ER (B+1) n k)) (of (ER (B+1) n k')) s
   rw [h0,show nth (0:ZX).l s=0 from pL s,KP,KP]at h3
   rw [←bW hs,←bW AQ]
   omega
  have lt2:∀k,k≤n→k/P<(V+1)^p:=fun k hk=>(Nat.div_lt_iff_lt_mul hPp).2 (by rw [Nat.mul_comm];omega)
  have d1:i%P=j%P:=KL (Nat.succ_pos U) q _ _ (Nat.mod_lt i hPp) (Nat.mod_lt j hPp) (hd _ _ _ _ huz)
  have d2:i/P=j/P:=KL (Nat.succ_pos V) p _ _ (lt2 i (by omega)) (lt2 j hj) (hd _ _ _ _ hvz)
  have h6:=Nat.div_add_mod i P
  have h7:=Nat.div_add_mod j P
  rw [d1,d2]at h6
  omega
 ·obtain⟨c,xY,rfl⟩:=lJ (show N a=1 by omega)
  refine⟨1,0,c,xY,by grind,by rw [G3];omega,by rw [adr];omega,fun x hx=>?_,fun x hx=>by cases hx⟩
  have h1:(1:ZX).l = [1]:=rfl
  rw [h1]at hx
  simp at hx;subst hx;exact Nat.two_pow_pos _
end ZX
end Pm
namespace Pm
theorem qP(a b:Nat):(2:Rat)^(a+b)=2^a*2^b:=by
 induction b with
 | zero=>rw [Nat.add_zero,Rat.pow_zero,Rat.mul_one]
 | succ b ih=>rw [←Nat.add_assoc,Rat.pow_succ,Rat.pow_succ,ih];grind
theorem gN(a:Nat):(0:Rat)<2^a:=Rat.pow_pos (by decide)
theorem qQ:∀a:Nat,(1:Rat)≤2^a
 | 0=>by simp
 | a+1=>by
  have:=qQ a
  rw [Rat.pow_succ];grind
theorem HJ{a b:Nat}(h:a≤b):(2:Rat)^a≤2^b:=by
 obtain⟨c,rfl⟩:∃c,b=a+c:=⟨b-a,by omega⟩
 rw [qP]
 have h1:=qQ c
 have h2:=gN a
 have h3:=Rat.mul_le_mul_of_nonneg_left h1 (Rat.le_of_lt h2)
 grind
theorem KQ:∀a:Nat,(((2^a:Nat):Int):Rat)=2^a
 | 0=>by simp
 | a+1=>by
  rw [Nat.pow_succ,Rat.pow_succ,←KQ a,Int.natCast_mul,Rat.intCast_mul];rfl
theorem HK{c:Int}{s:Nat}(h:c.natAbs≤2^s):Ab (c:Rat) (2^s):=by
 have h1:=KQ s
 have h2:c≤((2^s:Nat):Int):=by omega
 have h3 : -((2^s:Nat):Int)≤c:=by omega
 have h4:=Rat.intCast_le_intCast.2 h2
 have h5:=Rat.intCast_le_intCast.2 h3
 rw [Rat.intCast_neg]at h5
 rw [h1]at h4 h5
 exact⟨h5,h4⟩
theorem TR(s β:Nat):∀k,EP (2^s) (2^β) k=2^(s+k*(β+2))
 | 0=>by simp [EP]
 | k+1=>by
  rw [EP,TR s β k,show s+(k+1)*(β+2)=s+k*(β+2)+β+1+1 by rw [Nat.add_mul];omega,Rat.pow_succ,Rat.pow_succ,qP _ β]
  grind
namespace ZX
theorem avl{a:ZX}{s n β:Nat}(h:∀c∈a.l,c.natAbs≤2^s)(hN:N a≤n){t:Rat}(ht:Ab t (2^β)):Ab (e t a) (2^(s+n*(β+2))):=by
 have h1:=OX (S:=2^s) (B:=2^β) (t:=t) (Rat.le_of_lt (gN s)) (qQ β) ht a.l fun c hc=>HK (h c hc)
 rw [TR]at h1
 refine h1.mono (HJ ?_)
 have:a.l.length*(β+2)≤n*(β+2):=Nat.mul_le_mul_right _ hN
 omega
theorem aeC{a:ZX}{s n β:Nat}(h:∀c∈a.l,c.natAbs≤2^s)(hN:N a≤n){r t:Rat}(hr:Ab r (2^β))(ht:Ab t (2^β)):Ab (dd r t a.l) (2^(s+n*(β+2)))∧Ab (cc r t a.l) (2^(s+n*(β+2))):=by
 have h1:=HB (S:=2^s) (B:=2^β) (s:=r) (t:=t) (Rat.le_of_lt (gN s)) (qQ β) hr ht a.l fun c hc=>HK (h c hc)
 have h2:=aej (S:=2^s) (B:=2^β) (s:=r) (t:=t) (Rat.le_of_lt (gN s)) (qQ β) hr ht a.l fun c hc=>HK (h c hc)
 rw [TR]at h1 h2
 have h3:a.l.length*(β+2)≤n*(β+2):=Nat.mul_le_mul_right _ hN
 exact⟨h1.mono (HJ (by omega)),h2.mono (HJ (by omega))⟩
def sk(s n l β:Nat):Nat:=n*(s+2+l)+n*(β+2)+1
def sx(a b:ZX)(s r l:Nat):Nat:=(l+2)*(N a+N b)+s*N b+r*N a
theorem avm{a b:ZX}{s r l β:Nat}(ha:a≠0)(hb:b≠0)(hA:∀c∈a.l,c.natAbs≤2^s)(hB:∀c∈b.l,c.natAbs≤2^r)(hl:N a+N b≤2^l)(hc:∀d,dv d a→dv d b→N d≤1)
  {t ε η:Rat} (ht:Ab t (2^β)) (hε:ε*2^(sx a b s r l-s+N b*(β+2)+1)≤1) (hη:η*2^(sx a b s r l-r+N a*(β+2)+1)≤1):kE ε (e t a)∨kE η (e t b):=by
 obtain⟨u,v,c,xY,he,hNu,hNv,hu,hv⟩:=aoH ha hb hA hB hl hc (Nat.le_refl _)
 have h1:=avl (β:=β) hu hNu ht
 have h2:=avl (β:=β) hv hNv ht
 have h3:e t u*e t a+e t v*e t b=(c:Rat):=by rw [←iO,←iO,←akL,he,AK]
 have h4:=w6 xY
 rw [show(l+2)*(N a+N b)+s*N b+r*N a=sx a b s r l from rfl]at h1 h2
 rw [qP _ 1]at hε hη
 have hM:=gN (sx a b s r l-s+N b*(β+2))
 have hM2:=gN (sx a b s r l-r+N a*(β+2))
 generalize (2:Rat)^(sx a b s r l-s+N b*(β+2))=M at *
 generalize (2:Rat)^(sx a b s r l-r+N a*(β+2))=M2 at *
 refine Classical.byContradiction fun AM=>?_
 have e1:(2:Rat)^1=2:=by rw [Rat.pow_succ,Rat.pow_zero];grind
 rw [e1]at hε hη
 have key:∀x y E M:Rat,0<M→Ab y M→E*(M*2)≤1→¬kE E x → ∃δ:Rat,δ<1/2∧Ab (y*x) δ:=fun x y E M hM hy hE hx=>by
  have g1:=A6 hx
  obtain⟨m,g2,g3,g4⟩:∃m:Rat,m<E∧x≤m ∧ -x≤m:=by
   by_cases h:x ≤ -x
   ·exact⟨-x,by grind,h,Rat.le_refl⟩
   ·exact⟨x,by grind,Rat.le_refl,by grind⟩
  have g5:=hy.mul (show Ab x m from⟨by grind,g3⟩)
  refine⟨_,?_,g5⟩
  have g6:=Rat.mul_lt_mul_of_pos_left g2 hM
  grind
 obtain⟨d1,p1,p2,p3⟩:=key _ _ _ _ hM h1 hε fun h=>AM (.inl h)
 obtain⟨d2,p4,p5,p6⟩:=key _ _ _ _ hM2 h2 hη fun h=>AM (.inr h)
 rcases h4 with h4 | h4<;>grind
theorem aeD{a b:ZX}{s n l β m:Nat}(hn:N a+N b≤n)(hm:m≤n):sx a b s s l-s+m*(β+2)+1≤sk s n l β:=by
 unfold sx sk
 have h1:(l+2)*(N a+N b)+s*N b+s*N a=(s+2+l)*(N a+N b):=by grind
 have h2:(s+2+l)*(N a+N b)≤(s+2+l)*n:=Nat.mul_le_mul_left _ hn
 have h3:m*(β+2)≤n*(β+2):=Nat.mul_le_mul_right _ hm
 rw [h1,Nat.mul_comm n]
 omega
theorem D7{ε:Rat}{i j:Nat}(h:ε*2^j≤1)(hij:i≤j):ε*2^i≤1:=by
 have h1:=HJ hij
 have h2:=gN i
 by_cases h0:0≤ε
 ·have:=Rat.mul_le_mul_of_nonneg_left h1 h0;grind
 ·have:=Rat.mul_lt_mul_of_pos_right (show ε<0 by grind) h2;grind
theorem sep{a b:ZX}{s n l β:Nat}(ha:a≠0)(hb:b≠0)(hA:∀c∈a.l,c.natAbs≤2^s)(hB:∀c∈b.l,c.natAbs≤2^s)(hn:N a+N b≤n)(hl:n≤2^l)(hc:∀d,dv d a→dv d b→N d≤1)
  {t ε:Rat} (ht:Ab t (2^β)) (hε:ε*2^sk s n l β≤1):kE ε (e t a)∨kE ε (e t b):=
 avm (l:=l) ha hb hA hB (by omega) hc ht (D7 hε (aeD hn (by omega))) (D7 hε (aeD hn (by omega)))
theorem aoI{f:ZX}{s n l:Nat}(h:∀c∈f.l,c.natAbs≤2^s)(hN:N f≤n)(hl:n≤2^l):∀c∈(bY f).l,c.natAbs≤2^(s+l):=fun c hc=>by
 have h1:=pK _ _ hc
 simp only [yC,List.mem_map,List.mem_range]at h1
 obtain⟨i,hi,rfl⟩:=h1
 rw [Int.natAbs_mul,Nat.pow_add]
 have h2:=TQ h (i+1)
 have h3:N f=f.l.length:=rfl
 exact Nat.mul_le_mul h2 (by rw [Int.natAbs_natCast];omega)
theorem aiq{x y z:Rat}(h:(x<y∧y<z)∨(y<x∧z<y)):(if x≠0∧b6 z≠b6 x then 1 else 0:Nat)=(if x≠0∧b6 y≠b6 x then 1 else 0)+(if y≠0∧b6 z≠b6 y then 1 else 0):=by
 rcases cY x with ⟨h1,h2⟩ | ⟨h1,h2⟩ | ⟨h1,h2⟩<;>rcases cY y with ⟨h3,h4⟩ | ⟨h3,h4⟩ | ⟨h3,h4⟩<;>rcases cY z with ⟨h5,h6⟩ | ⟨h5,h6⟩ | ⟨h5,h6⟩ <;>
  rw [h2,h4,h6]<;>first
   | (exfalso;rcases h with ⟨h7,h8⟩ | ⟨h7,h8⟩<;>grind)
   | (have n1:(x≠0)=True:=eq_true (by grind)
      have n2:(y≠0)=True:=eq_true (by grind)
      simp only [n1,n2];decide)
   | (have n1:(x≠0)=False:=eq_false (by grind)
      have n2:(y≠0)=True:=eq_true (by grind)
      simp only [n1,n2];decide)
   | (have n1:(x≠0)=True:=eq_true (by grind)
      have n2:(y≠0)=False:=eq_false (by grind)
      simp only [n1,n2];decide)
def D8(f:ZX)(t:Rat):Int:=if e t f=0 then b6 (e t (bY f))else b6 (e t f)
theorem aeE{x y:Rat}{σ:Int}(h:(σ=1∧x<y)∨(σ = -1∧y<x)):(if y=0 then σ else b6 y)=(if (if x≠0∧b6 y≠b6 x then 1 else 0:Nat)=0 then 1 else -1)*(if x=0 then σ else b6 x):=by
 rcases cY x with ⟨h1,h2⟩ | ⟨h1,h2⟩ | ⟨h1,h2⟩<;>rcases cY y with ⟨h3,h4⟩ | ⟨h3,h4⟩ | ⟨h3,h4⟩<;>rw [h2,h4]<;>first
   | (exfalso;rcases h with ⟨h7,h8⟩ | ⟨h7,h8⟩<;>grind)
   | (have n1:(x=0)=False:=eq_false (by grind)
      have n2:(y=0)=False:=eq_false (by grind)
      simp only [n1,n2,ne_eq,not_false_eq_true,true_and,if_false];decide)
   | (have n1:(x=0)=True:=eq_true (by grind)
      have n2:(y=0)=False:=eq_false (by grind)
      have:σ=1∨σ = -1:=by omega
      rcases this with rfl | rfl<;>first
        | (simp only [n1,n2,ne_eq,not_true_eq_false,false_and,if_false,if_true];decide)
        | (exfalso;rcases h with ⟨h7,h8⟩ | ⟨h7,h8⟩<;>grind))
   | (have n1:(x=0)=False:=eq_false (by grind)
      have n2:(y=0)=True:=eq_true (by grind)
      have:σ=1∨σ = -1:=by omega
      rcases this with rfl | rfl<;>first
        | (simp only [n1,n2,ne_eq,not_false_eq_true,true_and,if_false,if_true];decide)
        | (exfalso;rcases h with ⟨h7,h8⟩ | ⟨h7,h8⟩<;>grind))
structure aAt(f:ZX)(B δ:Rat):Prop where
 par:∀s t,Ab s B→Ab t B→s<t→t-s≤δ→D8 f t=(if ind f s t=0 then 1 else -1)*D8 f s
def lk(s n l β:Nat):Nat:=sk (s+l) (n+n) (l+1) β+(s+l+n*(β+2))+2
theorem yL{L:List ZX}{f:ZX}(G:w7 L f){s n l β:Nat}(hf:f≠0)(hA:∀c∈f.l,c.natAbs≤2^s)(hn:N f≤n)(hl:n≤2^l)(hc:∀d,dv d f→dv d (bY f)→N d≤1){δ:Rat}(hδ:δ*2^lk s n l β≤1):Lcl L f (2^β) δ∧aAt f (2^β) δ:=by
 have hA':∀c∈f.l,c.natAbs≤2^(s+l):=fun c hc=>Nat.le_trans (hA c hc) (Nat.pow_le_pow_right (by decide) (by omega))
 have hD:=aoI hA hn hl
 have hND:=oG f
 have main:∀lo hi,Ab lo (2^β)→Ab hi (2^β)→lo<hi→hi-lo≤δ→vt L lo=vt L hi+ind f lo hi∧(e lo f=0→e hi f≠0)∧D8 f hi=(if ind f lo hi=0 then 1 else -1)*D8 f lo:=fun lo hi alo ahi hlh hw=>by
  have hδ0:0<δ:=by grind
  rw [lk,qP,qP]at hδ
  have hQ:=gN (s+l+n*(β+2))
  have hK:=gN (sk (s+l) (n+n) (l+1) β)
  generalize hQe:(2:Rat)^(s+l+n*(β+2))=Q at *
  generalize hKe:(2:Rat)^sk (s+l) (n+n) (l+1) β=κ at *
  have h22:(2:Rat)^2=4:=by rw [Rat.pow_succ,Rat.pow_succ,Rat.pow_zero];grind
  rw [h22]at hδ
  have hε:(1/κ)*κ=1:=Rat.div_mul_cancel (Rat.ne_of_gt hK)
  have hε0:0<1/κ:=(Rat.lt_div_iff hK).2 (by grind)
  generalize 1/κ=ε at *
  have hδQ:4*(δ*Q)≤ε:=by
   have h1:δ*(κ*Q*4)=(4*(δ*Q))*κ:=by grind
   rw [h1,←hε]at hδ
   exact Rat.le_of_mul_le_mul_right hδ hK
  have hin:∀x,lo≤x→x≤hi→Ab x (2^β):=fun x h1 h2=>cI alo ahi h1 h2
  by_cases hd0:bY f=0
  ·-- a constant
   have hN1:N f=1:=by
    have h0:=ZX.aF.1 hf
    rcases Nat.lt_or_ge (N f) 2 with h1 | h1
    ·omega
    ·exact absurd hd0 (JS h1)
   obtain⟨c,xY,rfl⟩:=lJ hN1
   have hcv:∀x,b6 (e x (K c))=b6 (c:Rat):=fun x=>by rw [AK]
   have h1:=G.const hlh (σ:=b6 (c:Rat)) (.inr (hcv lo)) (fun x _ _=>hcv x)
   have h2:ind (K c) lo hi=0:=if_neg fun h=>h.2 (by rw [hcv,hcv])
   have avo:(c:Rat)≠0:=fun h=>xY (by exact_mod_cast h)
   have hz:∀x,e x (K c)≠0:=fun x=>by rw [AK];exact avo
   exact⟨by rw [h1,h2];omega,fun h=>by rw [AK]at h;exact absurd h avo,by rw [h2,if_pos rfl,Int.one_mul,D8,D8,if_neg (hz _),if_neg (hz _),hcv,hcv]⟩
  have hb:=sep hf hd0 hA' hD (show N f+N (bY f)≤n+n by omega) (show n+n≤2^(l+1)by rw [Nat.pow_succ];omega) hc alo (ε:=ε) (by rw [hKe,hε];exact Rat.le_refl)
  have dsz:∀x y,lo≤x→x≤hi→lo≤y→y≤hi→Ab (dd x y f.l) Q∧Ab (cc x y f.l) Q∧Ab (dd x y (bY f).l) Q:=fun x y h1 h2 h3 h4=>by
   have g1:=aeC hA' hn (hin x h1 h2) (hin y h3 h4)
   have g2:=aeC hD (show N (bY f)≤n by omega) (hin x h1 h2) (hin y h3 h4)
   rw [hQe]at g1 g2
   exact⟨g1.1,g1.2,g2.1⟩
  have aDD:0≤δ*Q:=Rat.mul_nonneg (Rat.le_of_lt hδ0) (Rat.le_of_lt hQ)
  have small:∀h x,0≤h→h≤δ→Ab x Q→Ab (h*x) (δ*Q):=fun h x h1 h2 h3=>Ab.mul ⟨by grind,h2⟩ h3
  rcases hb with hb | hb
  ·-- one sign
   have xP:∀x,lo≤x→x≤hi→b6 (e x f)=b6 (e lo f)∧b6 (e lo f)≠0:=fun x h1 h2=>by
    refine fS hb hε0 fun h=>?_
    have h3:=nT lo x f.l
    have h4:=small (x-lo) _ (by grind) (by grind) (dsz lo x Rat.le_refl (by grind) h1 h2).1
    rw [←h3]at h4
    obtain⟨p1,p2⟩:=h4
    have h5:e x f-e lo f=qv x f.l-qv lo f.l:=rfl
    rw [h5]at h
    rcases h with h | h<;>grind
   have h1:=G.const hlh (σ:=b6 (e lo f)) (.inr rfl) (fun x h1 h2=>(xP x (by grind) h2).1)
   have h2:ind f lo hi=0:=if_neg fun h=>h.2 (xP hi (by grind) Rat.le_refl).1
   have hz:∀x,lo≤x→x≤hi→e x f≠0:=fun x h1 h2 h=>by
    obtain⟨g1,g2⟩:=xP x h1 h2
    rw [h,jI]at g1
    exact g2 g1.symm
   exact⟨by rw [h1,h2];omega,fun h=>absurd h (hz lo Rat.le_refl (by grind)),by rw [h2,if_pos rfl,Int.one_mul,D8,D8,if_neg (hz _ (by grind) Rat.le_refl),if_neg (hz _ Rat.le_refl (by grind)),(xP hi (by grind) Rat.le_refl).1]⟩
  ·-- rising or axv
   have mono:∀x y,lo≤x→x<y→y≤hi→b6 (e y f-e x f)=b6 (e lo (bY f))∧b6 (e lo (bY f))≠0:=fun x y h1 h2 h3=>by
    have g1:=nT x y f.l
    have g2:=TC x y f.l
    have g3:dd x x f.l=e x (bY f):=(akM x f).symm
    have g4:=nT lo x (bY f).l
    have b1:=small (y-x) _ (by grind) (by grind) (dsz x y h1 (by grind) (by grind) h3).2.1
    have b2:=small (x-lo) _ (by grind) (by grind) (dsz lo x Rat.le_refl (by grind) h1 (by grind)).2.2
    rw [←g2]at b1
    rw [←g4]at b2
    have h5:e x (bY f)-e lo (bY f)=qv x (bY f).l-qv lo (bY f).l:=rfl
    have h6:=fS (y:=dd x y f.l) hb hε0 fun h=>by
     obtain⟨p1,p2⟩:=b1
     obtain⟨p3,p4⟩:=b2
     rcases h with h | h<;>grind
    have h7:e y f-e x f=qv y f.l-qv x f.l:=rfl
    rw [h7,g1,tH,eN (show 0<y-x by grind),Int.one_mul]
    exact h6
   have W8:∀x y,lo≤x→x<y→y≤hi→(b6 (e lo (bY f))=1∧e x f<e y f)∨(b6 (e lo (bY f)) = -1∧e y f<e x f):=fun x y h1 h2 h3=>by
    obtain⟨g1,g2⟩:=mono x y h1 h2 h3
    rcases cY (e y f-e x f)with ⟨g3,g4⟩ | ⟨g3,g4⟩ | ⟨g3,g4⟩
    ·exact .inr ⟨by omega,by grind⟩
    ·omega
    ·exact .inl ⟨by omega,by grind⟩
   have dsg:∀x,lo≤x→x≤hi→b6 (e x (bY f))=b6 (e lo (bY f)):=fun x h1 h2=>by
    have g4:=nT lo x (bY f).l
    have b2:=small (x-lo) _ (by grind) (by grind) (dsz lo x Rat.le_refl (by grind) h1 h2).2.2
    rw [←g4]at b2
    have h5:e x (bY f)-e lo (bY f)=qv x (bY f).l-qv lo (bY f).l:=rfl
    exact(fS hb hε0 fun h=>by
     obtain⟨p3,p4⟩:=b2
     rcases h with h | h<;>grind).1
   refine⟨?_,fun h=>?_,?_⟩
   ·refine G.aem (P:=fun x y=>lo≤x→y≤hi→vt L x=vt L y+ind f x y) (fun x y z qT hyz p1 p2 hx hz=>?_) (fun B δ' hL x y hx hy qT hd h1 h2=>hL.turns x y hx hy qT hd) hlh Rat.le_refl Rat.le_refl
    rw [p1 hx (by grind),p2 (by grind) hz]
    have h1:=W8 x y hx qT (by grind)
    have h2:=W8 y z (by grind) hyz hz
    have h3:=aiq (x:=e x f) (y:=e y f) (z:=e z f) (by
     rcases h1 with ⟨q1,q2⟩ | ⟨q1,q2⟩<;>rcases h2 with ⟨q3,q4⟩ | ⟨q3,q4⟩
     ·exact .inl ⟨q2,q4⟩
     ·omega
     ·omega
     ·exact .inr ⟨q2,q4⟩)
    have h4:ind f x z=ind f x y+ind f y z:=h3
    omega
   ·rcases W8 lo hi Rat.le_refl hlh Rat.le_refl with ⟨q1,q2⟩ | ⟨q1,q2⟩<;>grind
   ·have h1:=aeE (W8 lo hi Rat.le_refl hlh Rat.le_refl)
    unfold D8 ind
    rw [dsg hi (by grind) Rat.le_refl]
    exact h1
 exact⟨⟨fun x y hx hy qT hd=>(main x y hx hy qT hd).1,fun x y hx hy qT hd=>(main x y hx hy qT hd).2.1⟩,⟨fun x y hx hy qT hd=>(main x y hx hy qT hd).2.2⟩⟩
end ZX
end Pm
