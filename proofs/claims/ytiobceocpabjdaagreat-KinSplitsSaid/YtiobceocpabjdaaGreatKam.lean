import Derived.Test.YtiobceocpabjdaaGreatKak
import Derived.Test.YtiobceocpabjdaaGreatKal
set_option linter.unusedSimpArgs false
set_option linter.unusedVariables false
namespace Go.Proofs.YtiobceocpabjdaaGreat
open Go Pm
theorem BZ.z{h n:Nat}{a:ZX}(b:BZ h n a)(hh:h<1099511627776):∀c∈a.l,Z c:=fun c hc=>Nat.lt_of_le_of_lt (b.sz c hc) hh
theorem L4{h n:Nat}{a:ZX}(b:BZ h n a)(hh:h<1099511627776)(hn:n<1099511627776):aE env.P 100 [PI a.l] (Po a.l):=YI a.l (b.z hh) (Nat.lt_of_le_of_lt b.len hn)
theorem axo{a b:ZX}(ha:a≠0)(hb:Nf b)(h:∀p,ZX.pN p→ZX.mu p b=min (ZX.mu p a) 1):sq a=b:=by
 have nA:=jV ha
 have e:sq a=sz' (nf a):=by
  unfold sq
  split
  ·rename_i h2
   have h3:nf a=1:=nA.N1 (by rw [zS];exact h2)
   rw [h3]
   show 1=wz 1 0
   rw [wz]
   show 1=qz 1 (gd 1)
   rw [aft,Nf.one.self]
  ·rfl
 rw [e]
 exact Nf.tE (afv nA) hb fun p hp=>by rw [afw nA hp,YU hp ha,h p hp]
end Go.Proofs.YtiobceocpabjdaaGreat
namespace Go.Proofs.YtiobceocpabjdaaGreat
open Go Pm
open ZX hiding N W
theorem ZD{a:ZX}(h:2≤ZX.N a):nth (bX a).l (ZX.N a-2)=lead a.l*((ZX.N a-1:Nat):Int):=by
 have h1:a.l.length=ZX.N a:=rfl
 have h2:nth (bX a).l (ZX.N a-2)=nth a.l (ZX.N a-1)*((ZX.N a-1:Nat):Int):=by
  show nth (aP (zO a.l)) _=_
  rw [jS,zO,cE (by simp;omega)]
  simp only [List.getElem_map,List.getElem_range]
  rw [show ZX.N a-2+1=ZX.N a-1 by omega]
 rw [h2,lead,h1]
theorem afS{a:ZX}(h:2≤ZX.N a):ZX.N (bX a)=ZX.N a-1:=by
 have h1:=oE a
 have h2:=ZD h
 have hl:=dH a.c (show 0<a.l.length from by have:a.l.length=ZX.N a:=rfl;omega)
 have h3:nth (bX a).l (ZX.N a-2)≠0:=by rw [h2];exact Int.mul_ne_zero hl (by omega)
 rcases Nat.lt_or_ge (ZX.N a-2) (bX a).l.length with h4 | h4
 ·have:ZX.N (bX a)=(bX a).l.length:=rfl
  omega
 ·exact absurd (i0 h4) h3
theorem afT{a:ZX}(h:2≤ZX.N a):lead (bX a).l=lead a.l*((ZX.N a-1:Nat):Int):=by
 rw [←ZD h,lead,show(bX a).l.length=ZX.N (bX a)from rfl,afS h,show ZX.N a-1-1=ZX.N a-2 by omega]
theorem abV{a:ZX}(h:ZX.N a≤1):bX a=0:=by
 refine Classical.byContradiction fun h0=>?_
 have h1:=ZX.aF.1 h0
 have:=oE a
 omega
theorem aj8{f:ZX}(hf:Nf f):s9 (bX f).l=(rS (bX f)).l:=by
 have h:¬lead (bX f).l<0:=by
  rcases Nat.lt_or_ge (ZX.N f) 2 with h2 | h2
  ·rw [abV (by omega)];decide
  ·rw [afT h2]
   have:=Int.mul_nonneg (Int.le_of_lt hf.l) (show (0:Int)≤((ZX.N f-1:Nat):Int)by omega)
   omega
 show _=kW (bX f).l
 rw [QL,if_neg h]
theorem L5{α:Type}{g:α→List PV}{l:List α}{s n:Nat}{f:ZX}(hS:aE env.P 70 [aH g l] (Po f.l))(h:Ch s n f)(hf:Nf f):aE env.P 69 [aH g l] (.dX [CH (bA f), .int .i64 0]):=by
 have hn:=h.hn
 have hp:=h.pot
 have hs:=hp.le
 have bd:BZ (s+5) n (bX f):=h.bz.bX (by omega)
 have d1:=rC h.bz (by omega) (by omega)
 have d2:=vH ((bX f).l.map uW) (bd.ER (by omega) (by omega)) (s:=s+5) (n:=n) (by rw [cI];exact NI bd) (by omega) (by omega)
 rw [BF,←i5,aj8 hf]at d2
 have b2:BZ (s+5) n (rS (bX f)):=jW bd
 have b1:BZ (s+5) n f:=h.bz.mono (by omega) (Nat.le_refl _)
 have IP:ZX.N (rS (bX f))≤ZX.N f:=Nat.le_trans (mY _) (Nat.le_trans (oE f) (by omega))
 have hc:bA f=f::wG (ZX.N f) f (rS (bX f)):=rfl
 rw [FG IP (Nat.le_refl _)]at hc
 have hf0:f.l.length≠0:=by have:=ZX.aF.1 hf.ne;exact Nat.pos_iff_ne_zero.1 this
 have hf1:¬f.l = []:=fun h0=>hf0 (by rw [h0];rfl)
 generalize hC:bA f=C at *
 generalize rS (bX f)=g0 at *
 generalize mD (bX f).l=pc at *
 generalize (bX f).l=dl at *
 refine cB [(0,aH g l)] Tryz.func69 ?_
 refine aA [0] ?_
 refine aL [4] hS ?_
 refine aK [4,14] ?_
 refine bH ?_ ?_<;>intro h
 ·simp at h;exact absurd h hf1
 refine W.skip ?_
 refine W.aqO 1 rfl rfl rfl (fun K hK=>?_)
 simp (disch:=omega) [gw]
 refine W.lw [4,5] hK ?_;clear hK K;simp
 refine jG ?_
 refine cM d1 ?_
 refine cN [4,5,7] d2 ?_
 refine W.seq ?_
 refine W.block ?_
 refine W.aY (fun k σ=>∃(L:List ZX) (x y:ZX) (i ver v18 e18 s:Nat) (rows:Pm.Rows) (clk:Nat),σ=⟨fa [(4,Po x.l),(5, .ptr 18 v18 0 0),(7,Po y.l)],rows,clk⟩∧rows 16=some ⟨ver,24,1,emap zp L⟩∧rows 18=some ⟨v18,e18,1,[[.own 16 ver 0 (i+1)]]⟩∧L.length=i+1 ∧
  L++wG k x y=C∧k=ZX.N y∧BZ s n x∧BZ s n y∧B3 4500000000 n s x y∧i+ZX.N y≤20) (ZX.N g0) ?_ ?_
 ·exact⟨_, .refl,[f],f,g0,0,_,_,_,s+5,_,_,rfl,by simp [emap];(first | exact rfl | exact⟨rfl,rfl⟩),by simp;(first | exact rfl | exact⟨rfl,rfl⟩ | exact⟨rfl,rfl,rfl⟩),rfl,hc.symm,rfl,b1,b2,hp,by have:=b2.N;omega⟩
 rintro k _ ⟨L,x,y,i,ver,v18,e18,s,rows,clk,rfl,L6,aqP,hL,VD,rfl,bx,uJ,hp,hiN⟩
 have hs:=hp.le
 have hlx:=bx.len
 have hly:=uJ.len
 have hLl:(emap zp L).length=i+1:=by simp [emap,hL]
 refine aK [4,5,7,27] ?_
 refine bH ?_ ?_<;>intro h
 ·have hy:y≠0:=ZX.aF.2 (by show 0<y.l.length;simp at h;omega)
  have hR:=QJ (x.l.map uW) (y.l.map uW) (bx.ER (by omega) (by omega)) (uJ.ER (by omega) (by omega)) (s:=s) (s':=s) (N:=n) (by rw [cI];exact NI bx) (by rw [cI];exact NI uJ) (by
   have:n*(s+n+1)≤20*4500000000:=Nat.mul_le_mul hn hs
   omega)
  rw [BF,BF,if_neg (wD hy),←i5,←i5]at hR
  have br:=Y8 bx uJ hy
  have amQ:(ZX.N x+1-ZX.N y)*(s+n+1)≤22*4500000000:=Nat.mul_le_mul (by have:ZX.N x=x.l.length:=rfl;omega) (by omega)
  have hrz:QH x.l y.l=(rS (rz x y)).l:=by
   obtain⟨hrl,hN,_⟩:=uL (a:=x) hy
   obtain⟨m,q,hm,e⟩:=afG y.c (ZX.aF.1 hy) (x.l.length+1) x.l x.c (by omega)
   rw [←hrl]at e
   exact afH x.c y.c (ZX.aF.1 hy) (rz x y).c hN hm e
  rw [hrz]at hR
  have hNg:=IL (x:=(rS (rz x y)).l) (PB.of (NI (jW br)) (by omega) (by omega))
  have e3:iH (rS (rz x y)).l=(nx x y).l:=rfl
  rw [e3]at hNg
  have IP:=abJ (a:=x) hy
  have SP:=hp.step IP
  have bn:=Y9 bx uJ hy
  have hch:L ++ [y]++wG (ZX.N (nx x y)) y (nx x y)=C:=by
   rw [←VD]
   obtain⟨j,hj⟩:∃j,ZX.N y=j+1:=⟨ZX.N y-1,by have:=ZX.aF.1 hy;have:ZX.N y=y.l.length:=rfl;omega⟩
   rw [hj,wG,if_neg (by omega),FG (k:=j) (j:=ZX.N (nx x y)) (by omega) (Nat.le_refl _)]
   simp
  generalize (rS (rz x y)).l=pl at *
  generalize hnx:nx x y=nn at *
  refine W.skip ?_
  refine W.block ?_
  refine W.sr ?_
  simp (disch:=omega) [gw,L6,aqP,hLl]
  refine bI [4,5,7] ?_
  refine aL [5,7,8] hR ?_
  refine W.bY (fun K hK=>?_)
  simp (disch:=omega) [gw]
  refine cM hNg ?_
  refine hK _ ⟨ZX.N nn,_,aB _ [4,5,7],IP,L ++ [y],y,nn,i+1,_,v18,e18,_,_,_,rfl,by simp;first | exact rfl | skip,by simp;first | exact rfl | skip,by simp [hL],hch,rfl,uJ.mono (by omega) (Nat.le_refl _),bn,SP,by omega⟩
 ·have hy:y=0:=by
   refine Classical.byContradiction fun h0=>?_
   have h1:=ZX.aF.1 h0
   have h2:ZX.N y=y.l.length:=rfl
   simp at h;rw [h2,h]at h1;simp at h1
  subst hy
  rw [lN,List.append_nil]at VD
  subst VD
  have yV:List.take (i+1) L=L:=List.take_of_length_le (by omega)
  refine eW ?_
  refine W.XT 16 (by rw [L6];simp) (fun K hK=>?_)
  simp [L6]
  refine hK _ ?_
  have axq:G1 rows 16 18=some ⟨v18,e18,1,[[aH zp L]]⟩:=by
   simp [aqP,L6,hLl,yV]
  clear L6 aqP
  generalize G1 rows 16=xW at *
  refine aA [2,3] ?_
  refine W.ret ?_
  simp [go,axq]
theorem afV{n:Nat}(hn:n≤20):∀(j s:Nat) (x g:ZX),BZ s n x→BZ s n g→B3 4500000000 n s x g → ∀p∈wG j x g,BZ 4500000000 n p
 | 0,_,_,_,_,_,_,p,hp=>by cases hp
 | j+1,s,x,g,bx,bg,hP,p,hp=>by
  have hs:=hP.le
  rw [wG]at hp
  split at hp
  ·cases hp
  ·rename_i h0
   have h0':g≠0:=ZX.aF.2 (Nat.pos_of_ne_zero h0)
   rcases List.mem_cons.1 hp with rfl | hp
   ·exact bg.mono (by omega) (Nat.le_refl _)
   ·exact afV hn j _ g (nx x g) (bg.mono (by omega) (Nat.le_refl _)) (Y9 bx bg h0') (hP.step (abJ h0')) p hp
theorem ZE:∀(j:Nat) (x g:ZX),(wG j x g).length≤j
 | 0,_,_=>Nat.le_refl _
 | j+1,x,g=>by
  rw [wG]
  split
  ·simp
  ·simp only [List.length_cons];have:=ZE j g (nx x g);omega
theorem Ch.all{s n:Nat}{f:ZX}(h:Ch s n f):(∀p∈bA f,BZ 4500000000 n p)∧(bA f).length≤21:=by
 have hp:=h.pot
 have hs:=hp.le
 have hn:=h.hn
 refine⟨fun p hq=>?_,?_⟩
 ·rcases List.mem_cons.1 hq with rfl | hq
  ·exact h.bz.mono (by omega) (Nat.le_refl _)
  ·exact afV hn _ _ _ _ (h.bz.mono (by omega) (Nat.le_refl _)) (jW (h.bz.bX (by omega))) hp p hq
 ·have:=ZE (ZX.N f) f (rS (bX f))
  have h2:=h.bz.N
  show(f::wG (ZX.N f) f (rS (bX f))).length≤21
  simp only [List.length_cons];omega
theorem aj9{a u v:ZX}{c:Int}(na:Nf a)(hc:c≠0)(h:u*a+v*bX a=K c):sq a=a:=axo na.ne na fun p hp=>by
 have hm:mu p a≤1:=by
  rcases Nat.lt_or_ge (mu p a) 2 with h1 | h1
  ·omega
  ·exfalso
   obtain⟨m,hmm⟩:∃m,mu p a=m+1:=⟨mu p a-1,by omega⟩
   obtain⟨_,h2⟩:=zP hp na.ne hmm
   have d1:dv p a:=by have:=(jU hp na.ne).1 (show 1≤mu p a by omega);rwa [show p^1=p by rw [pow_succ',eQ];grind]at this
   have hd:bX a≠0:=fun h0=>by rw [h0]at h2;have:mu p (0:ZX)=m:=h2;have h9:=(zP hp na.ne hmm).1;exact h9 h0
   have d2:dv p (bX a):=by have:=(jU hp hd).1 (show 1≤mu p (bX a)by omega);rwa [show p^1=p by rw [pow_succ',eQ];grind]at this
   have d3:dv p (K c):=by rw [←h];exact(d1.mul_left u).add (d2.mul_left v)
   have h3:=d3.mF (pM hc)
   have h4:=hp.deg
   rw [N_K hc]at h3
   omega
 omega
theorem aZ(q:Rat):dU q.num q.den=q:=by
 rw [dU,if_neg (by have:=q.den_nz;omega)]
 exact Rat.num_divInt_den q
theorem afW(n d:Int):(sml n d).num.natAbs≤30∧((sml n d).den:Int).natAbs≤6:=by
 have h1:=Int.emod_nonneg n (show (61:Int)≠0 by decide)
 have h2:=Int.emod_lt_of_pos n (show (0:Int)<61 by decide)
 have h3:=Int.emod_nonneg d (show (6:Int)≠0 by decide)
 have h4:=Int.emod_lt_of_pos d (show (0:Int)<6 by decide)
 unfold sml
 rw [uB _ _ (by omega),uC _ _ (by omega)]
 rw [if_neg (by omega),if_neg (by omega)]
 refine⟨Nat.le_trans (Int.natAbs_ediv_le_natAbs _ _) (by omega),Nat.le_trans (Int.natAbs_ediv_le_natAbs _ _) (by omega)⟩
structure SQ(u:Nat)(q:Rat):Prop where
 n2:sz 2 q.num≤u
 d2:sz 2 (q.den:Int)≤u
 hu:1≤u
theorem SQ.nL{u:Nat}{q:Rat}(h:SQ u q):sz LL q.num≤u:=Nat.le_trans (FC _) h.n2
theorem SQ.dL{u:Nat}{q:Rat}(h:SQ u q):sz LL (q.den:Int)≤u:=Nat.le_trans (FC _) h.d2
theorem aqQ(n d:Int):SQ 5 (sml n d):=by
 obtain⟨h1,h2⟩:=afW n d
 exact⟨oH (by omega),oH (by omega),by decide⟩
section
variable {c:List ZX} {n u:Nat} {q:Rat} (hb:∀p∈c,BZ 4500000000 n p) (hn:n≤20) (hl:c.length≤21) (hq:SQ u q) (hu:u≤1000000000)
include hb hn hl hq hu
theorem afX:aE env.P 151 [aH zq c,R2 q.num q.den] (.int .i64 (vr (pC c q.num q.den))):=RC (by omega) fun p hp=>by
 have hmul:n*(u+1)≤20*(u+1):=Nat.mul_le_mul_right _ hn
 exact uM (hb p hp) hq.n2 hq.d2 hq.hu (by omega) (by show _<137438953472;omega)
theorem afY:aE env.P 168 [CH c,T2 q.num q.den] (.int .i64 (vr (pC c q.num q.den))):=VT (by omega) fun p hp=>by
 have hmul:n*(u+1)≤20*(u+1):=Nat.mul_le_mul_right _ hn
 exact JA (NI (hb p hp)) p.c hq.nL hq.dL hq.hu (by omega) (by omega) (by omega) (aZ q) ⟨hq.nL,hq.dL⟩
end
theorem pbs{c:List ZX}{n:Nat}(hb:∀p∈c,BZ 4500000000 n p)(hn:n≤20):∀p∈c,PB p.l:=fun p hp=>(hb p hp).pb (by decide) (by omega)
structure MK(a:ZX)(c:List ZX):Prop where
 to:aE env.P 100 [PI a.l] (Po a.l)
 new:aE env.P 69 [Po a.l] (.dX [CH c, .int .i64 0])
 chain:aE env.P 81 [PI a.l] (aH zq c)
 bd:∀p∈c,BZ 4500000000 20 p
 len:c.length≤21
theorem MK.of{s n:Nat}{a:ZX}(h:rZ s n a)(h0:a≠0)(CI:1≤n)(h1:1≤s):MK a (bA (sq a)):=by
 have hC:=h.ch h0 CI
 obtain⟨hb,hl⟩:=hC.all
 have hqb:=h.tF
 have hs:s<1099511627776:=by unfold qb at hqb;omega
 have hn:=h.hn
 exact⟨L4 h.bz hs (by omega),L5 (wE h) hC (FJ h0).1,wL h h0 CI h1,fun p hp=>(hb p hp).mono (Nat.le_refl _) hn,hl⟩
theorem pD(a b:Nat):(2:Rat)^(a+b)=2^a*2^b:=by
 induction b with
 | zero=>simp
 | succ b ih=>rw [←Nat.add_assoc,Rat.pow_succ,Rat.pow_succ,ih];grind
theorem two_pow_pos(a:Nat):(0:Rat)<2^a:=Rat.pow_pos (by decide)
theorem pE:∀a:Nat,(1:Rat)≤2^a
 | 0=>by simp
 | a+1=>by
  have:=pE a
  rw [Rat.pow_succ];grind
theorem mH{a b:Nat}(h:a≤b):(2:Rat)^a≤2^b:=by
 obtain⟨c,rfl⟩:=Nat.exists_eq_add_of_le h
 rw [pD]
 have h1:=pE c
 have h2:=Rat.mul_le_mul_of_nonneg_left h1 (Rat.le_of_lt (two_pow_pos a))
 grind
theorem RG{c:Int}{s:Nat}(h:c.natAbs<2^s):Ab (c:Rat) (2^s):=by
 have h1:((2^s:Int):Rat)=2^s:=by rw [Rat.intCast_pow];rfl
 have h2:(2^s:Int)=((2^s:Nat):Int):=by rw [Int.natCast_pow];rfl
 constructor
 ·rw [←h1,←Rat.intCast_neg]
  exact Rat.intCast_le_intCast.2 (by omega)
 ·rw [←h1]
  exact Rat.intCast_le_intCast.2 (by omega)
theorem amW{c:Int}{s:Nat}(h:sz 2 c≤s):Ab (c:Rat) (2^s):=
 RG (Nat.lt_of_lt_of_le (jH (b:=2) (by decide) c) (Nat.pow_le_pow_right (by decide) h))
theorem BZ.ab{s n:Nat}{a:ZX}(h:BZ s n a):∀c∈a.l,Ab (c:Rat) (2^s):=fun c hc=>amW (h.sz c hc)
theorem L7(s β:Nat):∀k,GC (2^s) (2^β) k=2^(s+k*(β+2))
 | 0=>by simp [GC]
 | k+1=>by
  rw [GC,L7 s β k,show s+(k+1)*(β+2)=s+k*(β+2)+β+1+1 by rw [Nat.add_mul];omega,Rat.pow_succ,Rat.pow_succ,pD _ β]
  grind
theorem BZ.aCM{s n β:Nat}{a:ZX}(h:BZ s n a){t:Rat}(ht:Ab t (2^β)):Ab (e t a) (2^(s+n*(β+2))):=by
 have h1:=RA (S:=2^s) (B:=2^β) (Rat.le_of_lt (two_pow_pos s)) (pE β) ht a.l h.ab
 rw [L7]at h1
 exact h1.mono (mH (by have:=Nat.mul_le_mul_right (β+2) h.len;omega))
theorem ZF{s' N:Nat}{y:List Int}(uJ:Bd 2 s' N y)(cy:Cn y)(hy:0<y.length):∀(n j s:Nat) (x:List Int),Cn x→x.length<n→Bd 2 s N x→x.length+1≤y.length+j →
  ∃(m:Int) (q:List Int),0<m∧sz 2 m≤j*s'+1∧Bd 2 (s+j*(2*s'+N+2)) N q ∧ ∀t,m*V t x=V t q*V t y+V t (rq y n x)
 | 0,j,s,x,_,h,_,_=>by omega
 | n+1,j,s,x,cx,h,bx,hj=>by
  rw [rq]
  split
  ·exact⟨1,[],by decide,Nat.le_trans (dV (k:=1) (by decide) (by decide)) (by omega),⟨by simp,fun c hc=>by cases hc⟩,fun t=>by simp [V]⟩
  ·rename_i h1
   obtain⟨j,rfl⟩:∃i,j=i+1:=⟨j-1,by omega⟩
   have hl:=uK hy (show y.length≤x.length by omega)
   have hb:=VL uJ bx hy (show y.length≤x.length by omega)
   obtain⟨m,q,hm,hms,hq,h4⟩:=ZF uJ cy hy n j _ (Y5 y x) (Cn.fS _ _) (by omega) hb (by omega)
   have AJ:=dH cy hy
   have e1:(j+1)*s'=j*s'+s':=by rw [Nat.add_mul];omega
   have e2:(j+1)*(2*s'+N+2)=j*(2*s'+N+2)+(2*s'+N+2):=by rw [Nat.add_mul];omega
   have e3:j*s'≤j*(2*s'+N+2):=Nat.mul_le_mul_left _ (by omega)
   have sx:sz 2 (yX (lead y)*lead x)≤s:=by
    refine Nat.le_trans (dY (b:=2) (by decide) ?_) (iD bx)
    rw [Int.natAbs_mul]
    have:(yX (lead y)).natAbs=1:=by unfold yX;split<;>rfl
    rw [this,Nat.one_mul];exact Nat.le_refl _
   have iR:=(Bd.a9 (b:=2) (by decide) (Bd.rV (b:=2) sx (x.length-y.length)) hms)
   have hlen:=bx.len
   refine⟨m*(lead y).natAbs,i3 q (a9 (rV (x.length-y.length) (yX (lead y)*lead x)) m),Int.mul_pos hm (by omega),?_,?_,fun t=>?_⟩
   ·have h8:sz 2 ((lead y).natAbs:Int)≤s':=Nat.le_trans (dY (b:=2) (by decide) (by simp)) (iD uJ)
    have:=cP (b:=2) (by decide) hms h8
    omega
   ·refine(Bd.i3 (b:=2) (s:=s+(j+1)*(2*s'+N+2)-1) (by decide) (hq.mono (by omega) (Nat.le_refl _)) (iR.mono (by omega) (by omega))).mono (by omega) (Nat.le_refl _)
   ·have h5:=afD t y x
    have h6:=h4 t
    rw [sV,cU,oY]
    have:m*((lead y).natAbs:Int)*V t x=m*(((lead y).natAbs:Int)*V t x):=by grind
    rw [this,h5]
    grind
theorem aqR{s n:Nat}{a b:ZX}(ha:BZ s n a)(hb:BZ s n b)(h0:b≠0):∃(m:Int) (q:ZX),0<m∧sz 2 m≤(n+1)*s+1∧BZ (s+(n+1)*(2*s+n+2)) n q∧((nx a b=0∧K m*a=q*b)∨(nx a b≠0 ∧ ∃k:Int,0<k∧K m*a=q*b-K k*nx a b)):=by
 obtain⟨hrl,hN,_⟩:=uL (a:=a) h0
 obtain⟨m,q,hm,hms,hq,e⟩:=ZF hb b.c (ZX.aF.1 h0) (a.l.length+1) (n+1) s a.l a.c (by omega) ha (by have:=ha.len;have:=ZX.aF.1 h0;show a.l.length+1≤b.l.length+(n+1);omega)
 rw [←hrl]at e
 have e1:K m*a=ZX.of q*b+rz a b:=ZX.ext fun t=>by rw [eM,wR,nI,eM,VF];exact e t
 refine⟨m,ZX.of q,hm,hms,Bd.cut hq,?_⟩
 by_cases hr:rz a b=0
 ·left
  refine⟨?_,by rw [e1,hr];grind⟩
  exact ZX.ext fun t=>by
   show V t (iH (kW (rz a b).l))=_
   rw [hr];rfl
 ·right
  have hrn:(rz a b).l ≠ []:=wD hr
  have hp:=FD (rz a b).c hrn
  have hg:=cV (rz a b).c hrn
  have hnx:K (bO (rz a b).l:Int)*nx a b = -(rz a b):=ZX.ext fun t=>by
   rw [eM,wR,IY]
   show _*V t (iH (kW (rz a b).l))=_
   rw [D6]
   have h2:V t (rz a b).l=V t (kW (rz a b).l)*(bO (rz a b).l:Int):=by rw [←eK,hp]
   rw [h2];grind
  refine⟨fun h=>hr ?_,_,Int.natCast_pos.2 (Nat.pos_of_ne_zero hg),by rw [hnx,e1];grind⟩
  rw [h]at hnx
  have:(rz a b) = -(K (bO (rz a b).l:Int)*0):=by rw [hnx];grind
  rw [this];grind
theorem RH{a b:ZX}(hb:b≠0)(hg:gz a b=1)(hd:dv b a):∃c:Int,c≠0∧b=K c:=by
 have h1:=(fA a b).least hd (dv.refl b)
 rw [hg]at h1
 have h2:=h1.mF q9
 rw [ZX.BB]at h2
 have:=ZX.aF.1 hb
 exact ZX.lL (by omega)
def NJ(C n β:Nat):Nat:=C+(n+1)*(2*C+n+2)+n*(β+2)+2
theorem ZG{C n β:Nat}(hn:n≤20):∀(k s:Nat) (a b:ZX),ZX.N b≤k→b≠0→BZ s n a→BZ s n b→B3 C n s a b→gz a b=1→StC (2^NJ C n β) (2^β) (a::wG k a b) ∧ ∀p∈wG k a b,BZ C n p
 | 0,s,a,b,hk,h0,_,_,_,_=>absurd hk (by have:=ZX.aF.1 h0;omega)
 | k+1,s,a,b,hk,h0,ha,hb,hp,hg=>by
  have hs:=hp.le
  have hNb:=ZX.aF.1 h0
  obtain⟨m,q,hm,hms,hq,hr⟩:=aqR ha hb h0
  rw [wG,if_neg (by omega)]
  have hbC:BZ C n b:=hb.mono (by omega) (Nat.le_refl _)
  rcases hr with ⟨hz,e1⟩ | ⟨hz,kk,hkk,e1⟩
  ·rw [hz,lN]
   exact⟨RH h0 hg ⟨m,by omega,q,e1⟩,fun p hp=>by
    simp only [List.mem_cons,List.not_mem_nil,or_false]at hp
    subst hp;exact hbC⟩
  ·have hN:=abJ (a:=a) h0
   have pT:gz b (nx a b)=1:=by
    rw [←hg]
    exact(LS (c:=m) (k := -kk) (q:=q) (by omega) (by omega) (by rw [e1,show K (-kk) = -K kk from ZX.ext fun t=>by rw [wR,IY,wR]];grind)).symm
   obtain⟨ih,ih2⟩:=ZG hn k _ b (nx a b) (by omega) hz (hb.mono (Nat.le_add_right _ _) (Nat.le_refl _)) (Y9 ha hb h0) (hp.step hN) pT
   refine⟨?_,fun p hp=>?_⟩
   ·obtain⟨k2,rfl⟩:∃k2,k=k2+1:=⟨k-1,by have:=ZX.aF.1 hz;omega⟩
    rw [wG,if_neg (by have:=ZX.aF.1 hz;omega)]at ih ⊢
    have c1:(n+1)*s≤(n+1)*(2*C+n+2):=Nat.mul_le_mul_left _ (by omega)
    have c2:(n+1)*(2*s+n+2)≤(n+1)*(2*C+n+2):=Nat.mul_le_mul_left _ (by omega)
    refine⟨ih,m,kk,q,hm,hkk,e1,?_,fun t ht=>?_⟩
    ·have h1:=(amW hms).2
     have h2:=mH (show (n+1)*s+1+1≤NJ C n β by unfold NJ;omega)
     rw [Rat.pow_succ]at h2
     grind
    ·have h1:=(BZ.aCM hq ht)
     have h2:=(Ab.mul (x:=2) (M:=2) ⟨by decide,by decide⟩ h1)
     refine h2.mono ?_
     have h3:=mH (show s+(n+1)*(2*s+n+2)+n*(β+2)+1≤NJ C n β by unfold NJ;omega)
     rw [Rat.pow_succ]at h3
     grind
   ·rcases List.mem_cons.1 hp with rfl | hp
    ·exact hbC
    ·exact ih2 p hp
theorem RJ:∀(k:Nat) (a b:ZX),(wG k a b).length≤ZX.N b
 | 0,a,b=>by simp [wG]
 | k+1,a,b=>by
  rw [wG]
  split
  ·simp
  ·rename_i h0
   have:=abJ (a:=a) (ZX.aF.2 (Nat.pos_of_ne_zero h0))
   have:=RJ k b (nx a b)
   simp only [List.length_cons];omega
theorem axr{a:ZX}(ha:a≠0):∃c:Int,0<c∧a=K c*rS a:=by
 have hp:=FD a.c (wD ha)
 refine⟨(bO a.l:Int),Int.natCast_pos.2 (Nat.pos_of_ne_zero (cV a.c (wD ha))),ZX.ext fun t=>?_⟩
 rw [eM,wR]
 show _=_*V t (kW a.l)
 have h2:V t a.l=V t (kW a.l)*(bO a.l:Int):=by rw [←eK,hp]
 rw [h2];grind
theorem aka{C s n β:Nat}{f:ZX}(hn:n≤20)(hf:f≠0)(hb:BZ (s+5) n f)(hp:B3 C n (s+5) f (rS (bX f)))(bd:BZ (s+5) n (rS (bX f)))(hg:gz f (bX f)=1):StC (2^NJ C n β) (2^β) (bA f)∧(∀p∈bA f,BZ C n p)∧(bA f).length≤n+1 ∧ ∀g k,wG (ZX.N f) f (rS (bX f))=g::k → ∃c:Int,0<c∧bX f=K c*g:=by
 have hs:=hp.le
 have hfC:BZ C n f:=hb.mono (by omega) (Nat.le_refl _)
 have hNf:=hb.N
 have h1:=oE f
 have h2:ZX.N (rS (bX f))≤ZX.N (bX f):=mY _
 by_cases h0:bX f=0
 ·have A4:rS (bX f)=0:=by rw [h0];exact ZX.ext fun t=>rfl
  have hc:bA f = [f]:=by unfold bA;rw [A4,lN]
  rw [hc]
  have hN1:ZX.N f≤1:=Classical.byContradiction fun h=>LN (a:=f) (by omega) h0
  refine⟨ZX.lL (by have:=ZX.aF.1 hf;omega),fun p hp=>by
   simp only [List.mem_cons,List.not_mem_nil,or_false]at hp
   subst hp;exact hfC,by simp,fun g k h=>?_⟩
  rw [A4,lN]at h;cases h
 ·obtain⟨c,hc,e⟩:=axr h0
  have A4:rS (bX f)≠0:=fun h=>h0 (by rw [e,h];grind)
  have pT:gz f (rS (bX f))=1:=by
   rw [←hg]
   refine FB (dv.refl f) (dv.refl f) ⟨1,by decide,K c,by rw [e];show(1:ZX)*_=_;grind⟩ ⟨c,by omega,1,by grind⟩
  obtain⟨g1,g2⟩:=ZG (β:=β) hn (ZX.N f) (s+5) f (rS (bX f)) (by omega) A4 hb bd hp pT
  refine⟨g1,fun p hp=>?_,?_,fun g k h=>?_⟩
  ·rcases List.mem_cons.1 hp with rfl | hp
   ·exact hfC
   ·exact g2 p hp
  ·have:=RJ (ZX.N f) f (rS (bX f))
   show(f::wG (ZX.N f) f (rS (bX f))).length≤_
   simp only [List.length_cons]
   omega
  ·obtain⟨j,hj⟩:∃j,ZX.N f=j+1:=⟨ZX.N f-1,by have:=ZX.aF.1 hf;omega⟩
   rw [hj,wG,if_neg (by have:=ZX.aF.1 A4;omega)]at h
   cases h
   exact⟨c,hc,e⟩
theorem ZH(μ:Nat):∀k,(2:Rat)^(μ*k)*B4 (2^μ) k=1
 | 0=>by simp [B4]
 | k+1=>by
  have h1:=ZH μ k
  have h2:B4 (2^μ) (k+1)=B4 (2^μ) k/2^μ:=rfl
  have h3:B4 ((2:Rat)^μ) k/2^μ*2^μ=B4 (2^μ) k:=Rat.div_mul_cancel (Rat.ne_of_gt (two_pow_pos μ))
  rw [h2,Nat.mul_add,Nat.mul_one,pD]
  grind
def jb(C n β:Nat):Nat:=(n+1)*NJ C n β+C+n*(β+2)+1
theorem ZI{C s n β:Nat}{f:ZX}(hn:n≤20)(hf:f≠0)(hb:BZ (s+5) n f)(hp:B3 C n (s+5) f (rS (bX f)))(bd:BZ (s+5) n (rS (bX f)))(hg:gz f (bX f)=1){δ:Rat}(hδ:δ*2^jb C n β≤1):Lcl (bA f) f (2^β) δ:=by
 obtain⟨h1,h2,h3,h4⟩:=aka (β:=β) hn hf hb hp bd hg
 have hM:(2:Rat)≤2^NJ C n β:=by
  have:=mH (show 1≤NJ C n β by unfold NJ;omega)
  rw [Rat.pow_one]at this
  exact this
 refine StC.loc (Q:=2^(C+n*(β+2))) hM (pE β) (Rat.le_of_lt (two_pow_pos C)) h1 (fun p hp=>⟨(h2 p hp).ab,?_⟩) h4 ?_
 ·rw [L7]
  exact mH (by have:=Nat.mul_le_mul_right (β+2) (h2 p hp).len;omega)
 ·have e1:=ZH (NJ C n β) (bA f).length
  have hε:=yB hM (bA f).length
  have h5:NJ C n β*(bA f).length+(C+n*(β+2))+1≤jb C n β:=by
   have:=Nat.mul_le_mul_left (NJ C n β) h3
   rw [Nat.mul_comm (NJ C n β) (n+1)]at this
   unfold jb;omega
  have h6:=mH h5
  rw [Rat.pow_succ,pD]at h6
  have hA:=two_pow_pos (NJ C n β*(bA f).length)
  have hB:=two_pow_pos (C+n*(β+2))
  show δ*2^(C+n*(β+2))<B4 (2^NJ C n β) (bA f).length
  generalize (2:Rat)^(NJ C n β*(bA f).length)=A at *
  generalize (2:Rat)^(C+n*(β+2))=Q at *
  generalize B4 ((2:Rat)^NJ C n β) (bA f).length=ε at *
  generalize (2:Rat)^jb C n β=J at *
  by_cases h0:0<δ
  ·have h7:=Rat.mul_le_mul_of_nonneg_left h6 (Rat.le_of_lt h0)
   have h8:δ*Q*A≤1/2:=by grind
   refine Rat.lt_of_mul_lt_mul_right (c:=A) ?_ (Rat.le_of_lt hA)
   grind
  ·have h7:=Rat.mul_le_mul_of_nonneg_right (show δ≤0 by grind) (Rat.le_of_lt hB)
   grind
theorem L8:∀(l:List Int) (n:Nat) (p:Int),(l.foldl wJ (n,p)).1=n+G6 p l
 | [],n,p=>rfl
 | s::l,n,p=>by
  have h:wJ (n,p) s=if s=0 then(n,p)else(if p≠0∧s≠p then n+1 else n,s):=rfl
  rw [List.foldl_cons,h]
  simp only [G6]
  split
  ·exact L8 l n p
  ·split<;>rw [L8 l]<;>omega
theorem VX(l:List Int):vr l=G6 0 l:=by
 rw [vr,L8];omega
theorem amX{n d:Int}{q:Rat}(h:(n:Rat)=q*d):∀x:List Int,((hm n d x).1:Rat)*d=qv q x*(d:Rat)^x.length∧((hm n d x).2:Rat)=(d:Rat)^x.length
 | []=>by
  refine⟨?_,?_⟩
  ·show((0:Int):Rat)*d=0*_
   rw [Rat.intCast_zero,Rat.zero_mul,Rat.zero_mul]
  ·show((1:Int):Rat)=(d:Rat)^0
   rw [Rat.intCast_one,Rat.pow_zero]
 | a::l=>by
  obtain⟨h1,h2⟩:=amX h l
  have e:hm n d (a::l)=((hm n d l).1*n+a*(hm n d l).2,(hm n d l).2*d):=rfl
  rw [e]
  simp only [qv,List.length_cons,Rat.pow_succ,Rat.intCast_add,Rat.intCast_mul]
  rw [h,h2]
  refine⟨?_,rfl⟩
  have:(((hm n d l).1:Rat)*(q*d)+a*(d:Rat)^l.length)*d=((hm n d l).1:Rat)*d*(q*d)+a*((d:Rat)^l.length*d):=by grind
  rw [this,h1];grind
theorem abW(v:Int):v.sign=cD (v:Rat):=by
 rcases Int.lt_trichotomy v 0 with h | h | h
 ·rw [Int.sign_eq_neg_one_of_neg h,gS (Rat.intCast_neg_iff.2 h)]
 ·subst h;decide
 ·rw [Int.sign_eq_one_of_pos h,eY (Rat.intCast_pos.2 h)]
theorem yF(p:ZX)(q:Rat):LX p.l q.num q.den=cD (e q p):=by
 have hd:(0:Rat)<((q.den:Int):Rat):=Rat.intCast_pos.2 (by have:=q.den_pos;omega)
 have hq:((q.num:Int):Rat)=q*((q.den:Int):Rat):=by
  have h1:q=(q.num:Rat)/((q.den:Int):Rat):=by
   rw [←Rat.divInt_eq_div,Rat.num_divInt_den]
  have h2:=Rat.div_mul_cancel (a:=(q.num:Rat)) (Rat.ne_of_gt hd)
  rw [←h1]at h2
  exact h2.symm
 have h1:=(amX hq p.l).1
 show(hm q.num q.den p.l).1.sign=cD (qv q p.l)
 rw [abW]
 have h2:cD (((hm q.num q.den p.l).1:Rat)*((q.den:Int):Rat))=cD (qv q p.l*((q.den:Int):Rat)^p.l.length):=by rw [h1]
 rw [uN,uN,eY hd,eY (Rat.pow_pos hd)]at h2
 omega
theorem FK(c:List ZX)(q:Rat):vr (pC c q.num q.den)=vt c q:=by
 rw [VX]
 unfold vt pC G7
 congr 1
 exact List.map_congr_left fun p _=>yF p q
theorem aqS(c:List ZX):∃S:Rat,0≤S ∧ ∀p∈c,∀x∈p.l,Ab (x:Rat) S:=by
 induction c with
 | nil=>exact⟨0,Rat.le_refl,fun p hp=>by cases hp⟩
 | cons a c ih =>
  obtain⟨S,hS,h⟩:=ih
  obtain⟨A,hA,ha⟩:=CM a.l
  refine⟨S+A,by grind,fun p hp x hx=>?_⟩
  rcases List.mem_cons.1 hp with rfl | hp
  ·exact(ha x hx).mono (by grind)
  ·exact(h p hp x hx).mono (by grind)
theorem afZ(c:List ZX):∃X:Rat,1≤X∧(∀t,X≤t→vt c t=vr (sgR c)) ∧ ∀t,t ≤ -X→vt c t=vr (sgL c):=by
 obtain⟨S,hS,h⟩:=aqS c
 refine⟨S+1,by grind,fun t ht=>?_,fun t ht=>?_⟩
 ·rw [VX]
  unfold vt sgR G7
  congr 1
  exact List.map_congr_left fun p hp=>(I7 hS p.c (h p hp)).1 ht
 ·rw [VX]
  unfold vt sgL G7
  congr 1
  exact List.map_congr_left fun p hp=>(I7 hS p.c (h p hp)).2 ht
theorem lP{a:ZX}(ha:a≠0):Nf (sq a) ∧ ∀p,ZX.pN p→ZX.mu p (sq a)=min (ZX.mu p a) 1:=by
 have hA:=jV ha
 unfold sq
 split
 ·rename_i h
  refine⟨hA,fun p hp=>?_⟩
  obtain⟨c,hc,rfl⟩:=ZX.lL (x:=a) (by have:=ZX.aF.1 ha;omega)
  rw [YU hp ha,ZX.abD hp hc];rfl
 ·exact⟨afv hA,fun p hp=>by rw [afw hA hp,YU hp ha]⟩
theorem ZJ{a:ZX}(ha:a≠0):gz (sq a) (bX (sq a))=1:=by
 obtain⟨h1,h2⟩:=lP ha
 refine Nf.tE (YX h1.ne) Nf.one fun p hp=>?_
 have e1:mu p (1:ZX)=0:=abD hp (by decide)
 have h3:=amJ h1.ne hp
 rw [h2 p hp]at h3
 rw [e1]
 show mu p (gd (sq a))=0
 rw [h3]
 omega
theorem rF{a:ZX}(ha:a≠0):dv (sq a) a:=(FJ ha).2.trans (I0 a).2
theorem Lcl.mono{L:List ZX}{f:ZX}{B C δ:Rat}(h:Lcl L f B δ)(hc:C≤B):Lcl L f C δ:=
 ⟨fun s t hs ht=>h.turns s t (hs.mono hc) (ht.mono hc),fun s t hs ht=>h.simple s t (hs.mono hc) (ht.mono hc)⟩
theorem VY(B:Rat):∃β:Nat,B≤2^β:=by
 have h1:=Rat.lt_floor_add_one B
 refine⟨(B.floor+1).toNat,Rat.le_trans (Rat.le_of_lt h1) ?_⟩
 have h2:((2^(B.floor+1).toNat:Int):Rat)=2^(B.floor+1).toNat:=by rw [Rat.intCast_pow];rfl
 rw [←h2]
 refine Rat.intCast_le_intCast.2 ?_
 have h3:(B.floor+1).toNat<2^(B.floor+1).toNat:=Nat.lt_two_pow_self
 have h4:((2^(B.floor+1).toNat:Nat):Int)=2^(B.floor+1).toNat:=by rw [Int.natCast_pow];rfl
 omega
theorem Ch.L9{s n:Nat}{f:ZX}(h:Ch s n f)(hf:f≠0)(hg:gz f (bX f)=1):yC (bA f) f:=⟨fun B hB=>by
 have hn:=h.hn
 obtain⟨β,hβ⟩:=VY B
 have bd:BZ (s+5) n (bX f):=h.bz.bX (by omega)
 have hJ:=two_pow_pos (jb 4500000000 n β)
 have hJ1:(1:Rat)/2^jb 4500000000 n β*2^jb 4500000000 n β=1:=Rat.div_mul_cancel (Rat.ne_of_gt hJ)
 refine⟨1/2^jb 4500000000 n β,(Rat.lt_div_iff hJ).2 (by grind),?_⟩
 exact Lcl.mono (ZI hn hf (h.bz.mono (by omega) (Nat.le_refl _)) h.pot (jW bd) hg (by rw [hJ1];exact Rat.le_refl)) hβ⟩
theorem rZ.L9{s n:Nat}{a:ZX}(h:rZ s n a)(h0:a≠0)(CI:1≤n):yC (bA (sq a)) (sq a):=(h.ch h0 CI).L9 (lP h0).1.ne (ZJ h0)
def dR(t:Rat):ZX:=of [-t.num,(t.den:Int)]
theorem MA(s t:Rat):e s (dR t)=((t.den:Int):Rat)*(s-t):=by
 rw [dR,I8,Rat.intCast_neg]
 have hd:(0:Rat)<((t.den:Int):Rat):=Rat.intCast_pos.2 (by have:=t.den_pos;omega)
 have hq:((t.num:Int):Rat)=t*((t.den:Int):Rat):=by
  have h1:t=(t.num:Rat)/((t.den:Int):Rat):=by
   rw [←Rat.divInt_eq_div,Rat.num_divInt_den]
  have h2:=Rat.div_mul_cancel (a:=(t.num:Rat)) (Rat.ne_of_gt hd)
  rw [←h1]at h2
  exact h2.symm
 rw [hq];grind
theorem lR(t:Rat):ZX.N (dR t)=2:=by
 have:aP [-t.num,(t.den:Int)] = [-t.num,(t.den:Int)]:=jD (x:=(t.den:Int)) (by have:=t.den_nz;omega) [-t.num]
 show(aP [-t.num,(t.den:Int)]).length=2
 rw [this];rfl
theorem RK(t:Rat):pN (dR t):=⟨by rw [lR];decide,fun d hd=>by
 have h0:dR t≠0:=ZX.aF.2 (by rw [lR];decide)
 have h1:=hd.mF h0
 have h2:=ZX.aF.1 (hd.ne h0)
 rw [lR]at h1 ⊢
 omega⟩
theorem axs{a b:ZX}{t:Rat}(h:dv b a)(hb:e t b=0):e t a=0:=by
 obtain⟨c,hc,q,he⟩:=h
 have h1:(c:Rat)*e t a=e t q*e t b:=by rw [←yY (t:=t) c,←i7,he,i7]
 rw [hb,Rat.mul_zero]at h1
 exact(Rat.mul_eq_zero.1 h1).resolve_left fun h=>hc (Rat.intCast_eq_zero_iff.1 h)
theorem MB{a:ZX}{t:Rat}:e t a=0↔dv (dR t) a:=by
 have h0:dR t≠0:=ZX.aF.2 (by rw [lR];decide)
 have hz:e t (dR t)=0:=by rw [MA];grind
 refine⟨fun ha=>?_,fun h=>axs h hz⟩
 obtain⟨c,hc,q,r,he,hN⟩:=ZX.afl a h0
 have h1:e t (K c*a)=e t q*e t (dR t)+e t r:=by rw [he,amS,i7]
 rw [i7,ha,hz]at h1
 have hr:e t r=0:=by grind
 have HN:r=0:=Classical.byContradiction fun HN=>by
  rw [lR]at hN
  obtain⟨k,hk,rfl⟩:=ZX.lL (x:=r) (by have:=ZX.aF.1 HN;omega)
  rw [yY]at hr
  exact hk (Rat.intCast_eq_zero_iff.1 hr)
 exact⟨c,hc,q,by rw [he,HN];grind⟩
theorem ZK{a:ZX}(ha:a≠0){t:Rat}:e t (sq a)=0↔e t a=0:=by
 refine⟨axs (rF ha),fun h=>?_⟩
 have hp:=RK t
 have h1:=MB.1 h
 obtain⟨g1,g2⟩:=lP ha
 have p1:(dR t)^1=dR t:=by rw [pow_succ',eQ];grind
 have h2:1≤mu (dR t) a:=(jU hp ha).2 (by rw [p1];exact h1)
 have h3:1≤mu (dR t) (sq a):=by rw [g2 _ hp];omega
 have h4:=(jU hp g1.ne).1 h3
 rw [p1]at h4
 exact MB.2 h4
theorem abX{L:List ZX}{f:ZX}(h:yC L f){b:Rat}(hb:∀a,Bg a b f):vr (sgL L)=vt L b:=by
 obtain⟨X,hX,_,h2⟩:=afZ L
 by_cases DK:b ≤ -X
 ·exact(h2 b DK).symm
 ·rw [←h2 (-X) Rat.le_refl]
  exact h.bg (hb (-X)) (Rat.not_le.1 DK)
theorem VZ{L:List ZX}{f:ZX}(h:yC L f){a:Rat}(ha:∀b,Bg a b f):vr (sgR L)=vt L a:=by
 obtain⟨X,hX,h1,_⟩:=afZ L
 by_cases DK:X≤a
 ·exact(h1 a DK).symm
 ·rw [←h1 X Rat.le_refl]
  exact(h.bg (ha X) (Rat.not_le.1 DK)).symm
theorem kS(p q:Rat):(dP (p.num*q.den) (q.num*p.den)<0)↔p<q:=by
 rw [mV,Rat.lt_iff]
theorem amY(C:List ZX)(q:Rat):vt C q≤C.length:=by
 have:=FI (pC C q.num q.den)
 rw [FK]at this
 simpa [pC]using this
theorem RL{n d:Int}(h:d≠0):dU n d=(n:Rat)/d:=by rw [dU,if_neg h,Rat.divInt_eq_div]
theorem MC{n d:Int}(h:d≠0){q:Rat}(e:(n:Rat)=q*d):dU n d=q:=by
 have hd:(d:Rat)≠0:=fun h0=>h (Rat.intCast_eq_zero_iff.1 h0)
 rw [RL h,e,Rat.mul_div_cancel hd]
theorem yG(q:Rat):((q.num:Int):Rat)=q*((q.den:Int):Rat):=by
 have hd:(0:Rat)<((q.den:Int):Rat):=Rat.intCast_pos.2 (by have:=q.den_pos;omega)
 have h1:q=(q.num:Rat)/((q.den:Int):Rat):=by
  rw [←Rat.divInt_eq_div,Rat.num_divInt_den]
 have h2:=Rat.div_mul_cancel (a:=(q.num:Rat)) (Rat.ne_of_gt hd)
 rw [←h1]at h2
 exact h2.symm
theorem akb{n d:Int}(hn:sz LL n<1099511627770)(hd:sz LL d<1099511627770)(h0:d≠0):aE env.P 146 [I n,I d] (.dX [RT (dU n d), .int .i64 0]):=by
 have n1:=K1 (x:=d) (by show _<_;omega)
 have n2:=K1 (x:=n) (by show _<_;omega)
 have z1:=I9 d
 have l1:=rE hn hd h0
 rw [show decide (d=0)=false from decide_eq_false h0]at z1
 show aE env.P _ _ (.dX [T2 (dU n d).num (dU n d).den,_])
 replace l1:aE env.P 169 [I n,I d] (T2 (dU n d).num (dU n d).den):=l1
 generalize (dU n d).num=rn at *
 generalize ((dU n d).den:Int)=rd at *
 refine cB [(0,I n),(1,I d)] Tryz.func146 ?_
 refine aA [2,3,4] ?_
 refine W.seq ?_
 refine aL [2,3,4] n1 ?_
 refine aL [2,3,4,9] z1 ?_
 refine bH ?_ ?_<;>intro h
 ·simp at h
 refine W.skip ?_
 refine W.sd ?_
 simp (maxSteps:=4000000) (disch:=omega) [gw]
 refine aC n2 ?_
 simp (maxSteps:=4000000) (disch:=omega) [gw]
 refine aC l1 ?_
 simp (maxSteps:=4000000) (disch:=omega) [gw]
 (try (refine bE (of_decide_eq_true (by kernel_rfl)) ?_));(try simp (maxSteps:=4000000) (disch:=omega) [gw]);(repeat rw [if_pos (by kernel_rfl)]);(try simp (maxSteps:=4000000) (disch:=omega) [gw])
 refine bI [4,5] ?_
 exact bZ
theorem aqT(p q:Rat):dU (p.num*q.den+q.num*p.den) (p.den*q.den*2)=(p+q)/2:=by
 have h1:((p.den:Int)*q.den*2)≠0:=by
  have:=p.den_nz;have:=q.den_nz
  refine Int.mul_ne_zero (Int.mul_ne_zero ?_ ?_) (by decide)<;>omega
 refine MC h1 ?_
 rw [Rat.intCast_add,Rat.intCast_mul,Rat.intCast_mul,Rat.intCast_mul,Rat.intCast_mul,yG p,yG q]
 have h2:(p+q)/2*2=p+q:=Rat.div_mul_cancel (by decide)
 show _=(p+q)/2*(((p.den:Int):Rat)*((q.den:Int):Rat)*2)
 generalize (p+q)/2=m at *
 grind
theorem RM{p q:Rat}{k:Nat}(hp:sz LL p.num≤k∧sz LL (p.den:Int)≤k)(hq:sz LL q.num≤k∧sz LL (q.den:Int)≤k)(hk:k≤300000000000):aE env.P 91 [RT p,RT q] (RT ((p+q)/2)):=by
 have c1:=zV hp.1 hp.2 hq.1 hq.2 (by omega) (aZ p) (aZ q) hp hq
 have g1:=cP (b:=LL) gO hp.1 hq.2
 have g2:=cP (b:=LL) gO hq.1 hp.2
 have g3:=cP (b:=LL) gO hp.2 hq.2
 have s2:sz LL 2≤1:=dV (k:=1) gO (by decide)
 have g4:=cP (b:=LL) gO g3 s2
 have g5:=n6 (b:=LL) gO (Nat.le_trans g1 (show k+k≤k+k from Nat.le_refl _)) (Nat.le_trans g2 (show k+k≤k+k from Nat.le_refl _))
 have a1:=X0 (x:=p.num*q.den) (y:=q.num*p.den) (by show _<_;omega) (by show _<_;omega)
 have o1:=EH 2 (by decide) (by decide)
 have m1:=xO (x:=(p.den:Int)*q.den) (y:=2) (by show _<_;omega) (by show _<_;omega)
 have h1:((p.den:Int)*q.den*2)≠0:=by
  have:=p.den_nz;have:=q.den_nz
  refine Int.mul_ne_zero (Int.mul_ne_zero ?_ ?_) (by decide)<;>omega
 have l1:=rE (n:=p.num*q.den+q.num*p.den) (d:=p.den*q.den*2) (by omega) (by omega) h1
 rw [aqT]at l1
 show aE env.P _ [T2 p.num p.den,T2 q.num q.den] (T2 ((p+q)/2).num ((p+q)/2).den)
 replace l1:aE env.P 169 [I (p.num*q.den+q.num*p.den),I (p.den*q.den*2)] (T2 ((p+q)/2).num ((p+q)/2).den):=l1
 clear g1 g2 g3 g4 g5 h1 hp hq
 generalize ((p+q)/2).num=rn at *
 generalize (((p+q)/2).den:Int)=rd at *
 generalize p.num*(q.den:Int)+q.num*p.den=x4 at *
 generalize (p.den:Int)*q.den*2=x5 at *
 generalize p.num*(q.den:Int)=x1 at *
 generalize q.num*(p.den:Int)=x2 at *
 generalize (p.den:Int)*(q.den:Int)=x3 at *
 generalize p.num=pn at *
 generalize (p.den:Int)=pd at *
 generalize q.num=qn at *
 generalize (q.den:Int)=qd at *
 refine cB [(0,T2 pn pd),(1,T2 qn qd)] Tryz.func91 ?_
 refine aA [2,3,4] ?_
 refine aL [4,5,6,7] c1 ?_
 refine W.sd ?_
 simp (maxSteps:=4000000) (disch:=omega) [gw]
 refine aC a1 ?_
 simp (maxSteps:=4000000) (disch:=omega) [gw]
 refine aC o1 ?_
 simp (maxSteps:=4000000) (disch:=omega) [gw]
 refine aC m1 ?_
 simp (maxSteps:=4000000) (disch:=omega) [gw]
 refine aC l1 ?_
 simp (maxSteps:=4000000) (disch:=omega) [gw]
 (try (refine bE (of_decide_eq_true (by kernel_rfl)) ?_));(try simp (maxSteps:=4000000) (disch:=omega) [gw]);(repeat rw [if_pos (by kernel_rfl)]);(try simp (maxSteps:=4000000) (disch:=omega) [gw])
 refine bI [4] ?_
 exact bZ
theorem abY{p:Rat}(hp:sz LL p.num<1099511627770∧sz LL (p.den:Int)<1099511627770):aE env.P 73 [RT p] (RT (-p)):=by
 have n1:=nW hp.1 hp.2
 rw [aZ]at n1
 have n2:=aep (x:=p.num) (by show _<_;omega)
 replace n1:aE env.P 147 [T2 p.num p.den] (T2 p.num p.den):=n1
 show aE env.P _ [T2 p.num p.den] (T2 (-p).num (-p).den)
 rw [Rat.neg_num,Rat.neg_den]
 generalize -p.num=rn at *
 generalize p.num=pn at *
 generalize (p.den:Int)=pd at *
 refine cB [(0,T2 pn pd)] Tryz.func73 ?_
 refine aA [1,2] ?_
 refine aL [1,2] n1 ?_
 refine aL [1,2] n2 ?_
 refine aA [2] ?_
 exact bZ
theorem af0{p q:Rat}(hp:ZR YY p)(hq:ZR YY q)(hs:ZR YY (p+q)):aE env.P 204 [RR p,RR q] (RR ((p+q)/2)):=by
 have a1:=EO p q hp hq
 have o1:=mN 1 2 (by decide) (by decide)
 have m1:=EP (p+q) (dU 1 2) hs ⟨by decide,by decide⟩
 have e:(p+q)*dU 1 2=(p+q)/2:=by
  rw [show dU 1 2=(1:Rat)/2 by rw [RL (by decide)];rfl];grind
 rw [e]at m1
 rw [dJ]at *
 rw [dJ q,dJ (p+q),dJ (dU 1 2)]at *
 generalize (p+q)/2=m at *
 generalize p+q=s at *
 generalize dU 1 2=hf at *
 generalize p.num=pn at *
 generalize (p.den:Int)=pd at *
 generalize q.num=qn at *
 generalize (q.den:Int)=qd at *
 generalize s.num=sn at *
 generalize (s.den:Int)=sd at *
 generalize hf.num=fn at *
 generalize (hf.den:Int)=fd at *
 rw [dJ]at *
 generalize m.num=mn at *
 generalize (m.den:Int)=md at *
 refine cB [(0,R2 pn pd),(1,R2 qn qd)] Tryz.func204 ?_
 refine aA [2,3,4] ?_
 refine jG ?_
 refine cM a1 ?_
 refine cM o1 ?_
 refine cN [4] m1 ?_
 exact bZ
theorem af1{d:Int}(h:sz LL d<4294967296):aE env.P 156 [I d] (RI d):=by
 have h1:=IB (decide (d<0)) (aR LL d.natAbs) (by have:sz LL d=(aR LL d.natAbs).length:=rfl;omega) (fN gO _)
 rw [show iv (decide (d<0)) (aR LL d.natAbs)=d from PH d]at h1
 exact h1
theorem abZ{p:Rat}(hp:sz LL p.num<4294967296∧sz LL (p.den:Int)<4294967296)(hY:Y p.num∧Y (p.den:Int)):aE env.P 82 [RT p] (RR p):=by
 have f1:=af1 hp.1
 have f2:=af1 hp.2
 have m1:=lI p.num p.den hY.1 hY.2
 rw [aZ,dJ]at m1
 rw [dJ]
 show aE env.P _ [T2 p.num p.den] _
 replace f1:aE env.P 156 [I p.num] (RI p.num):=f1
 replace f2:aE env.P 156 [I (p.den:Int)] (RI (p.den:Int)):=f2
 generalize p.num=pn at *
 generalize (p.den:Int)=pd at *
 refine cB [(0,T2 pn pd)] Tryz.func82 ?_
 refine aA [1,2] ?_
 refine W.sd ?_
 simp (maxSteps:=4000000) (disch:=omega) [gw]
 refine aC f1 ?_
 simp (maxSteps:=4000000) (disch:=omega) [gw]
 refine aC f2 ?_
 simp (maxSteps:=4000000) (disch:=omega) [gw]
 refine aC m1 ?_
 simp (maxSteps:=4000000) (disch:=omega) [gw]
 (try (refine bE (of_decide_eq_true (by kernel_rfl)) ?_));(try simp (maxSteps:=4000000) (disch:=omega) [gw]);(repeat rw [if_pos (by kernel_rfl)]);(try simp (maxSteps:=4000000) (disch:=omega) [gw])
 refine bI [2] ?_
 exact bZ
theorem amZ{x:Int}(hx:Sz x):aE env.P 143 [I x] (I (x.natAbs:Int)):=by
 have h1:=aeX (decide (x<0)) (aR LL x.natAbs) hx.XZ
 rw [show V 4294967296 (aR LL x.natAbs)=(x.natAbs:Int)from lE gO _]at h1
 exact h1
def qK(x:List Int):Nat→Int
 | 0=>0
 | i+1=>if qK x i<((nth x i).natAbs:Int)then((nth x i).natAbs:Int)else qK x i
theorem af2(x:List Int):∀i,0≤qK x i
 | 0=>Int.le_refl _
 | i+1=>by
  have:=af2 x i
  rw [qK];split<;>omega
theorem af3(x:List Int):∀i k,k<i→((nth x k).natAbs:Int)≤qK x i
 | 0,k,h=>by omega
 | i+1,k,h=>by
  rw [qK]
  by_cases hk:k=i
  ·subst hk;split<;>omega
  ·have:=af3 x i k (by omega)
   split<;>omega
theorem FL{b s n:Nat}{x:List Int}(h:Bd b s n x):∀i,Pm.sz b (qK x i)≤s
 | 0=>by show Pm.sz b 0≤s;rw [lG];omega
 | i+1=>by
  have ih:=FL h i
  have h1:=h.nth i
  have h2:Pm.sz b ((nth x i).natAbs:Int)=Pm.sz b (nth x i):=by unfold Pm.sz;rw [Int.natAbs_natCast]
  rw [qK];split
  ·rw [h2];exact h1
  ·exact ih
def iS(x:List Int):Rat:=dU (((lead x).natAbs:Int)+qK x (x.length-1)) ((lead x).natAbs:Int)
theorem V0{α:Type}{g:α→List PV}{l:List α}{s n:Nat}{x:List Int}(hN:aE env.P 64 [aH g l] (Po x))(cx:Cn x)(hx:x ≠ [])(b:Bd LL s n x)(hs:s<500000000000)(hn:n<500000000000):aE env.P 71 [aH g l] (.dX [RT (iS x), .int .i64 0]):=by
 have qB:0<x.length:=List.length_pos_iff.2 hx
 have hlen:=b.len
 have AJ:=dH cx qB
 have L1:=mA (PB.of b (by omega) (by omega)) cx
 have hld:=iD b
 have A1:=amZ (x:=lead x) (Nat.lt_of_le_of_lt hld (by omega))
 have aqU:sz LL ((lead x).natAbs:Int)≤s:=Nat.le_trans (dY gO (by simp)) hld
 have hm:=FL b (x.length-1)
 have S1:=X0 (x:=((lead x).natAbs:Int)) (y:=qK x (x.length-1)) (Nat.lt_of_le_of_lt aqU (by omega)) (Nat.lt_of_le_of_lt hm (by omega))
 have aCO:=n6 (b:=LL) gO aqU hm
 have M1:=akb (n:=((lead x).natAbs:Int)+qK x (x.length-1)) (d:=((lead x).natAbs:Int)) (by omega) (by omega) (by omega)
 replace M1:aE env.P 146 [I (((lead x).natAbs:Int)+qK x (x.length-1)),I ((lead x).natAbs:Int)] (.dX [T2 (iS x).num (iS x).den, .int .i64 0]):=M1
 show aE env.P _ _ (.dX [T2 (iS x).num (iS x).den,_])
 have C1:∀i,i<x.length→aE env.P 143 [I (nth x i)] (I ((nth x i).natAbs:Int))∧aE env.P 144 [I ((nth x i).natAbs:Int),I (qK x i)] (.int .i64 (dP ((nth x i).natAbs:Int) (qK x i))):=fun i hi=>by
  have h1:=b.nth i
  have h2:sz LL ((nth x i).natAbs:Int)≤s:=Nat.le_trans (dY gO (by simp)) h1
  exact⟨amZ (Nat.lt_of_le_of_lt h1 (by omega)),X1 (Nat.lt_of_le_of_lt h2 (by omega)) (Nat.lt_of_le_of_lt (FL b i) (by omega))⟩
 have hmx:∀i,qK x (i+1)=if 0<dP ((nth x i).natAbs:Int) (qK x i)then((nth x i).natAbs:Int)else qK x i:=fun i=>by
  rw [qK]
  by_cases h:qK x i<((nth x i).natAbs:Int)
  ·rw [if_pos h,if_pos (p7.2 h)]
  ·rw [if_neg h,if_neg (fun q=>h (p7.1 q))]
 have h0:qK x 0=0:=rfl
 clear hm aCO aqU hld
 generalize (iS x).num=rn at *
 generalize ((iS x).den:Int)=rd at *
 generalize ((lead x).natAbs:Int)+qK x (x.length-1)=sm at *
 generalize ((lead x).natAbs:Int)=la at *
 generalize qK x=mf at *
 have e1:((x.length:Int)-1).toNat=x.length-1:=by omega
 have e2:(x.length:Int)-1=((x.length-1:Nat):Int):=by omega
 refine cB [(0,aH g l)] Tryz.func71 ?_
 refine aA [0,2] ?_
 refine aL [0,2] hN ?_
 refine aK [0,2,13] ?_
 refine bH ?_ ?_<;>intro h
 ·simp at h;exact absurd h hx
 refine W.skip ?_
 refine aA [0,2,4] ?_
 refine W.row (id:=4) (els:=[[.bool false, .nil]]) [[.bool (decide ((0:Int)<0)),us (aR LL (0:Int).natAbs)]] (by simp;first | exact⟨rfl,rfl,rfl⟩ | exact⟨rfl,rfl⟩ | rfl) ⟨⟨.inl rfl, .inr ⟨rfl,rfl⟩,trivial⟩,trivial⟩ ?_
 refine W.seq ?_
 refine W.sr ?_
 simp (disch:=omega) [gw,e1,e2]
 refine bI [0,2,4,19,20,21] ?_
 refine W.block ?_
 refine W.aY (fun k σ=>∃(v2 e2 v4 e4 i:Nat) (rows:Pm.Rows) (clk:Nat),σ=⟨fa [(0,Po x),(2, .ptr 2 v2 0 0),(4, .ptr 4 v4 0 0),(19,aH ie (x.take (x.length-1))),(20, .int .i64 ((x.length-1:Nat):Int)),(21, .int .i64 i)],rows,clk⟩∧i+k=x.length-1 ∧
  rows 2=some ⟨v2,e2,4,[[.bool false, .nil, .bool false, .nil]]⟩∧rows 4=some ⟨v4,e4,2,[[.bool (decide (mf i<0)),us (aR LL (mf i).natAbs)]]⟩) (x.length-1) ?_ ?_
 ·exact⟨_, .refl,_,_,_,_,0,_,_,rfl,by omega,by simp;(first | exact⟨rfl,rfl⟩ | rfl),by rw [h0];simp;(first | exact⟨rfl,rfl⟩ | rfl)⟩
 rintro k _ ⟨v2,e2,v4,e4,i,rows,clk,rfl,uA,bU,dF⟩
 refine bT [0,2,4,19,20,21,22] ?_
 refine bH ?_ ?_<;>intro h
 ·have hi:i<x.length-1:=by simp at h;omega
  have hi2:i<x.length:=by omega
  have yV:nth (x.take (x.length-1)) i=nth x i:=by unfold nth;rw [List.getElem?_take_of_lt hi]
  obtain⟨c1,c2⟩:=C1 i hi2
  have hm:=hmx i
  generalize dP ((nth x i).natAbs:Int) (mf i)=cv at *
  generalize ((nth x i).natAbs:Int)=ab at *
  generalize nth x i=xi at *
  refine W.skip ?_
  refine W.dW (fun σ=>∃(v2 e2 v4 e4:Nat) (rows:Pm.Rows) (clk:Nat),σ=⟨fa [(0,Po x),(2, .ptr 2 v2 0 0),(4, .ptr 4 v4 0 0),(19,aH ie (x.take (x.length-1))),(20, .int .i64 ((x.length-1:Nat):Int)),(21, .int .i64 i)],rows,clk⟩ ∧
   rows 2=some ⟨v2,e2,4,[[.bool false, .nil, .bool false, .nil]]⟩∧rows 4=some ⟨v4,e4,2,[[.bool (decide (mf (i+1)<0)),us (aR LL (mf (i+1)).natAbs)]]⟩) ?_ ?_
  ·refine W.sr ?_
   simp (disch:=omega) [gw,hi,yV]
   refine bI [0,2,4,6,19,20,21] ?_
   refine aL [0,2,4,7,19,20,21] c1 ?_
   refine W.sr ?_
   simp (disch:=omega) [gw,dF]
   refine cN [0,2,4,7,19,20,21,30] c2 ?_
   refine bH ?_ ?_<;>intro h
   ·have h:0<cv:=by simpa using h
    rw [if_pos h]at hm
    refine W.bY (fun K hK=>?_);simp (disch:=omega) [gw,dF]
    exact hK _ ⟨_,aB _ [0,2,4,19,20,21],_,_,_,_,_,_,rfl,by simp [bU];exact rfl,by simp [hm];exact rfl⟩
   ·have h:¬0<cv:=by simpa using h
    rw [if_neg h]at hm
    refine W.skip ?_
    exact⟨_,aB _ [0,2,4,19,20,21],_,_,_,_,_,_,rfl,by simp [bU];exact rfl,by simp [hm,dF];exact rfl⟩
  rintro _ ⟨v2,e2,v4,e4,rows,clk,rfl,bU,dF⟩
  refine W.bY (fun K hK=>?_);simp (disch:=omega) [gw]
  refine hK _ ⟨k-1,_,aB _ [0,2,4,19,20,21],by omega,_,_,_,_,i+1,_,_,rfl,by omega,bU,dF⟩
 ·have hi:i=x.length-1:=by simp at h;omega
  subst hi
  refine eW ?_
  refine jG ?_
  refine cM L1 ?_
  refine cN [2,4,8] A1 ?_
  refine W.sd ?_
  simp (disch:=omega) [gw,dF]
  refine aC S1 ?_
  simp (maxSteps:=4000000) (disch:=omega) [gw]
  refine aC M1 ?_
  simp (disch:=omega) [gw,bU]
  (try (refine bE (of_decide_eq_true (by kernel_rfl)) ?_));(try simp (maxSteps:=4000000) (disch:=omega) [gw,bU]);(repeat rw [if_pos (by kernel_rfl)]);(try simp (maxSteps:=4000000) (disch:=omega) [gw,bU])
  refine bI [2,3] ?_
  exact bZ
theorem MD{x:List Int}(cx:Cn x)(hx:x ≠ []):iS x=1+((qK x (x.length-1):Int):Rat)/(((lead x).natAbs:Int):Rat):=by
 have AJ:=dH cx (List.length_pos_iff.2 hx)
 have h1:((lead x).natAbs:Int)≠0:=by omega
 have h2:(((lead x).natAbs:Int):Rat)≠0:=fun h=>h1 (Rat.intCast_eq_zero_iff.1 h)
 refine MC h1 ?_
 rw [Rat.intCast_add]
 have h3:=Rat.div_mul_cancel (a:=((qK x (x.length-1):Int):Rat)) h2
 generalize ((qK x (x.length-1):Int):Rat)/(((lead x).natAbs:Int):Rat)=w at *
 grind
end Go.Proofs.YtiobceocpabjdaaGreat
namespace Pm
theorem af4:∀(n:Nat) (f:Nat→Nat),(∀k,k≤n→f k<n) → ∃i j,i<j∧j≤n∧f i=f j
 | 0,f,h=>absurd (h 0 (Nat.le_refl _)) (by omega)
 | n+1,f,h=>by
  by_cases hx:∃i,i≤n∧f i=f (n+1)
  ·obtain⟨i,hi,e⟩:=hx
   exact⟨i,n+1,by omega,Nat.le_refl _,e⟩
  ·have m7:∀i,i≤n→f i≠f (n+1):=fun i hi e=>hx ⟨i,hi,e⟩
   have hm:=h (n+1) (Nat.le_refl _)
   obtain⟨i,j,hij,hj,e⟩:=af4 n (fun k=>if f k=n then f (n+1)else f k) (fun k hk=>by
    have h1:=h k (by omega)
    have h2:=m7 k hk
    show(if f k=n then f (n+1)else f k)<n
    split<;>omega)
   refine⟨i,j,hij,by omega,?_⟩
   have h1:=m7 i (by omega)
   have h2:=m7 j hj
   have e':(if f i=n then f (n+1)else f i)=(if f j=n then f (n+1)else f j):=e
   split at e'<;>split at e'<;>omega
def GD(b:Nat):Nat→Nat→List Int
 | 0,_=>[]
 | n+1,k=>((k%b:Nat):Int)::GD b n (k/b)
theorem yH(b:Nat):∀n k,(GD b n k).length=n
 | 0,_=>rfl
 | n+1,k=>by rw [GD,List.length_cons,yH b n]
theorem ME{b:Nat}(hb:0<b):∀n k,∀c∈GD b n k,0≤c∧c<b
 | 0,_,c,h=>by cases h
 | n+1,k,c,h=>by
  rcases List.mem_cons.1 h with rfl | h
  ·have:=Nat.mod_lt k hb;omega
  ·exact ME hb n _ c h
theorem MF{b:Nat}(hb:0<b):∀n k m,k<b^n→m<b^n→GD b n k=GD b n m→k=m
 | 0,k,m,h1,h2,_=>by simp at h1 h2;omega
 | n+1,k,m,h1,h2,h=>by
  rw [GD,GD]at h
  injection h with h3 h4
  rw [Nat.pow_succ]at h1 h2
  have h5:=MF hb n (k/b) (m/b) ((Nat.div_lt_iff_lt_mul hb).2 h1) ((Nat.div_lt_iff_lt_mul hb).2 h2) h4
  have h6:=Nat.div_add_mod k b
  have h7:=Nat.div_add_mod m b
  rw [h5]at h6
  omega
def V1(R:Nat):List Nat→Nat
 | []=>0
 | x::l=>x+R*V1 R l
theorem af5{R:Nat}:∀l:List Nat,(∀x∈l,x<R)→V1 R l<R^l.length
 | [],_=>by simp [V1]
 | x::l,h=>by
  have h1:=af5 l fun y hy=>h y (List.mem_cons_of_mem _ hy)
  have h2:=h x (List.mem_cons_self ..)
  rw [V1,List.length_cons,Nat.pow_succ]
  have h3:R*(V1 R l+1)≤R*R^l.length:=Nat.mul_le_mul_left _ h1
  rw [Nat.mul_add]at h3
  rw [Nat.mul_comm (R^_)]
  omega
theorem ZL{R:Nat}:∀l m:List Nat,l.length=m.length→(∀x∈l,x<R)→(∀x∈m,x<R)→V1 R l=V1 R m→l=m
 | [],[],_,_,_,_=>rfl
 | [],_::_,h,_,_,_=>by simp at h
 | _::_,[],h,_,_,_=>by simp at h
 | x::l,y::m,hl,h1,h2,e=>by
  rw [V1,V1]at e
  have hx:=h1 x (List.mem_cons_self ..)
  have hy:=h2 y (List.mem_cons_self ..)
  have e1:(x+R*V1 R l)%R=(y+R*V1 R m)%R:=by rw [e]
  rw [Nat.add_mul_mod_self_left,Nat.add_mul_mod_self_left,Nat.mod_eq_of_lt hx,Nat.mod_eq_of_lt hy]at e1
  subst e1
  have e2:R*V1 R l=R*V1 R m:=by omega
  have e3:=Nat.eq_of_mul_eq_mul_left (by omega) e2
  rw [ZL l m (by simpa using hl) (fun z hz=>h1 z (List.mem_cons_of_mem _ hz)) (fun z hz=>h2 z (List.mem_cons_of_mem _ hz)) e3]
theorem tH{X Y:Nat}:∀(x y:List Int),(∀c∈x,c.natAbs≤X)→(∀i,(nth y i).natAbs≤Y) → ∀i,(nth (bR x y) i).natAbs≤x.length*(X*Y)
 | [],y,_,_,i=>by
  rw [show bR [] y = []from rfl,qA];simp
 | k::x,y,hx,hy,i=>by
  have hk:=hx k (List.mem_cons_self ..)
  have ih:=tH x y (fun c hc=>hx c (List.mem_cons_of_mem _ hc)) hy
  have h1:∀j,(nth y j*k).natAbs≤X*Y:=fun j=>by
   rw [Int.natAbs_mul,Nat.mul_comm]
   exact Nat.mul_le_mul hk (hy j)
  rw [List.length_cons,Nat.add_mul,Nat.one_mul]
  cases i with
  | zero =>
   rw [sX]
   have:=h1 0;omega
  | succ i =>
   rw [n7]
   have h2:=h1 (i+1)
   have h3:=ih i
   have h4:=Int.natAbs_add_le (nth y (i+1)*k) (nth (bR x y) i)
   omega
theorem V2{A:Nat}{y:List Int}(h:∀c∈y,c.natAbs≤A)(i:Nat):(nth y i).natAbs≤A:=by
 rcases Nat.lt_or_ge i y.length with h1 | h1
 ·exact h _ (bJ h1)
 ·rw [i0 h1];exact Nat.zero_le _
namespace ZX
theorem MG(x y:ZX)(i:Nat):nth (x-y).l i=nth x.l i-nth y.l i:=by
 have h:x=(x-y)+y:=by grind
 have h2:nth x.l i=nth ((x-y)+y).l i:=by rw [←h]
 rw [show((x-y)+y).l=i3 (x-y).l y.l from rfl,xJ]at h2
 omega
theorem akc{a b v:ZX}(ha:a≠0)(hc:∀d,dv d a→dv d b→N d≤1)(h:dv a (v*b)):dv a v:=by
 obtain⟨g,hg⟩:=kA _ a b (Nat.le_refl _)
 have h0:=hg.ne (.inl ha)
 have h1:=hc g hg.l hg.r
 have h2:=ZX.aF.1 h0
 obtain⟨k,hk,rfl⟩:=lL (show N g=1 by omega)
 obtain⟨c,zG,u',v',e⟩:=hg.uv
 rw [qF]at e
 refine dv.G3 (Int.mul_ne_zero zG hk) ?_
 rw [e,show(u'*a+v'*b)*v=(u'*v)*a+v'*(v*b)by grind]
 exact((dv.refl a).mul_left _).add (h.mul_left _)
theorem ZM{l:List Int}{n:Nat}(h:l.length≤n):N (of l)≤n:=Nat.le_trans (bW l) h
theorem MH{x:ZX}{n:Nat}(hN:N x≤n+1)(h:∀i,i<n→nth x.l (i+1)=0):∃c:Int,x=K c:=by
 rcases Nat.lt_or_ge (N x) 2 with h1 | h1
 ·rcases Nat.eq_zero_or_pos (N x)with h2 | h2
  ·refine⟨0,?_⟩
   have:x=0:=Classical.byContradiction fun h0=>by have:=ZX.aF.1 h0;omega
   rw [this];rfl
  ·obtain⟨c,_,e⟩:=lL (show N x=1 by omega)
   exact⟨c,e⟩
 ·exfalso
  have h2:lead x.l≠0:=dH x.c (show 0<N x by omega)
  refine h2 ?_
  have h3:=h (N x-2) (by omega)
  rw [show N x-2+1=x.l.length-1 from by show N x-2+1=N x-1;omega]at h3
  exact h3
theorem MI(l:List Int)(i:Nat):nth (of l).l i=nth l i:=jS l i
theorem aqV{a b:ZX}{s r l X:Nat}(ha:a≠0)(hb:b≠0)(hA:∀c∈a.l,c.natAbs≤2^s)(hB:∀c∈b.l,c.natAbs≤2^r)(hl:N a+N b≤2^l)(hc:∀d,dv d a→dv d b→N d≤1)(hX:(l+2)*(N a+N b)+s*N b+r*N a≤X) :
  ∃(u v:ZX) (c:Int),c≠0∧u*a+v*b=K c∧N u≤N b∧N v≤N a∧(∀c∈u.l,c.natAbs≤2^(X-s)) ∧ ∀c∈v.l,c.natAbs≤2^(X-r):=by
 have na:=ZX.aF.1 ha
 have nb:=ZX.aF.1 hb
 obtain⟨p,hp⟩:∃p,N a=p+1:=⟨N a-1,by omega⟩
 obtain⟨q,hq⟩:∃q,N b=q+1:=⟨N b-1,by omega⟩
 have hsX:s≤X:=by rw [hq,Nat.mul_add s]at hX;omega
 have hrX:r≤X:=by rw [hp,Nat.mul_add r]at hX;omega
 rcases Nat.lt_or_ge 2 (N a+N b)with hm | hm
 ·obtain⟨m,hmm⟩:∃m,p+q=m+1:=⟨p+q-1,by omega⟩
  obtain⟨U,hU⟩:∃U,U=2^(X-s):=⟨_,rfl⟩
  obtain⟨V,hV⟩:∃V,V=2^(X-r):=⟨_,rfl⟩
  have hUA:U*2^s=2^X:=by rw [hU,←Nat.pow_add];congr 1;omega
  have hVB:V*2^r=2^X:=by rw [hV,←Nat.pow_add];congr 1;omega
  rw [←hU,←hV]
  let P:=(U+1)^q
  have hPp:0<P:=Nat.pow_pos (Nat.succ_pos _)
  have hQp:0<(V+1)^p:=Nat.pow_pos (Nat.succ_pos _)
  let W:=(m+1)*2^X
  let uu:=fun k:Nat=>of (GD (U+1) q (k%P))
  let vv:=fun k:Nat=>of (GD (V+1) p (k/P))
  let L:=fun k:Nat=>uu k*a+vv k*b
  have aju:∀B n k,∀c∈GD (B+1) n k,c.natAbs≤B:=fun B n k c hc=>by
   have:=ME (Nat.succ_pos B) _ _ c hc
   omega
  have hu:∀k,∀c∈(uu k).l,c.natAbs≤U:=fun k c hc=>aju _ _ _ c (p9 _ _ hc)
  have hv:∀k,∀c∈(vv k).l,c.natAbs≤V:=fun k c hc=>aju _ _ _ c (p9 _ _ hc)
  have hNu:∀k,N (uu k)≤q:=fun k=>ZM (by rw [yH];exact Nat.le_refl _)
  have hNv:∀k,N (vv k)≤p:=fun k=>ZM (by rw [yH];exact Nat.le_refl _)
  have hW:∀k i,(nth (L k).l i).natAbs≤W:=fun k i=>by
   have e:(L k).l=i3 (bR (uu k).l a.l) (bR (vv k).l b.l):=rfl
   rw [e,xJ]
   have h1:=tH (uu k).l a.l (hu k) (V2 hA) i
   have h2:=tH (vv k).l b.l (hv k) (V2 hB) i
   rw [hUA]at h1
   rw [hVB]at h2
   have h4:=Int.natAbs_add_le (nth (bR (uu k).l a.l) i) (nth (bR (vv k).l b.l) i)
   have h5:(uu k).l.length*2^X+(vv k).l.length*2^X≤W:=by
    rw [←Nat.add_mul]
    refine Nat.mul_le_mul_right _ ?_
    have h4:N (uu k)≤q:=hNu k
    have h5:N (vv k)≤p:=hNv k
    show N (uu k)+N (vv k)≤m+1
    omega
   omega
  let im:=fun k:Nat=>(List.range m).map fun i=>(nth (L k).l (i+1)+W).toNat
  have him:∀k,∀x∈im k,x<2*W+1:=fun k x hx=>by
   simp only [im,List.mem_map]at hx
   obtain⟨i,_,rfl⟩:=hx
   have:=hW k (i+1)
   omega
  have aCP:(2*W+1)^m<P*(V+1)^p:=by
   have h1:2*W+1≤2^(X+l+2):=by
    have h2:(m+1)*2^X≤2^l*2^X:=Nat.mul_le_mul_right _ (by omega)
    have h3:2^(X+l+2)=2^l*2^X*4:=by rw [Nat.pow_add,Nat.pow_add,Nat.mul_comm (2^X)]
    have h4:1≤2^l*2^X:=Nat.mul_pos (Nat.two_pow_pos _) (Nat.two_pow_pos _)
    simp only [W]
    omega
   have h2:=Nat.pow_le_pow_left h1 m
   rw [←Nat.pow_mul]at h2
   have h3:2^((X-s)*q+(X-r)*p)≤P*(V+1)^p:=by
    rw [Nat.pow_add,Nat.pow_mul,Nat.pow_mul,←hU,←hV]
    exact Nat.mul_le_mul (Nat.pow_le_pow_left (Nat.le_succ _) _) (Nat.pow_le_pow_left (Nat.le_succ _) _)
   refine Nat.lt_of_le_of_lt h2 (Nat.lt_of_lt_of_le (Nat.pow_lt_pow_right (by decide) ?_) h3)
   rw [hp,hq]at hX
   rw [Nat.sub_mul,Nat.sub_mul]
   have e1:X*q+X*p=X*m+X:=by rw [←Nat.mul_add,show q+p=m+1 by omega,Nat.mul_add,Nat.mul_one]
   have e2:s*q≤X*q:=Nat.mul_le_mul_right _ hsX
   have e3:r*p≤X*p:=Nat.mul_le_mul_right _ hrX
   have e4:(X+l+2)*m=X*m+(l+2)*m:=by rw [Nat.add_assoc,Nat.add_mul]
   have e5:(l+2)*(p+1+(q+1))=(l+2)*m+(l+2)*3:=by rw [←Nat.mul_add];congr 1;omega
   have e6:s*(q+1)=s*q+s:=Nat.mul_succ _ _
   have e7:r*(p+1)=r*p+r:=Nat.mul_succ _ _
   omega
  obtain⟨n,hn⟩:∃n,P*(V+1)^p=n+1:=⟨P*(V+1)^p-1,by have:=Nat.mul_pos hPp hQp;omega⟩
  obtain⟨i,j,hij,hj,e⟩:=af4 n (fun k=>V1 (2*W+1) (im k)) (fun k hk=>by
   have h1:=af5 (im k) (him k)
   rw [show(im k).length=m by simp [im]]at h1
   show V1 (2*W+1) (im k)<n
   omega)
  have e2:=ZL (im i) (im j) (by simp [im]) (him i) (him j) e
  have e3:∀s,s<m→nth (L i).l (s+1)=nth (L j).l (s+1):=fun s hs=>by
   have h1:(im i)[s]? = (im j)[s]? := by rw [e2]
   simp only [im,List.getElem?_map,List.getElem?_range hs,Option.map_some]at h1
   injection h1 with h1
   have:=hW i (s+1)
   have:=hW j (s+1)
   omega
  have hNL:∀x y:ZX,N x≤q→N y≤p→N (x*a+y*b)≤m+1:=fun x y hx hy=>by
   have h1:N (x*a+y*b)≤max (N (x*a)) (N (y*b)):=EA _ _
   have h2:N (x*a)≤N x+N a-1:=sW (x:=x.l) (y:=a.l) na
   have h3:N (y*b)≤N y+N b-1:=sW (x:=y.l) (y:=b.l) nb
   omega
  have hu':N (uu i-uu j)≤q:=by
   have h1:N (uu i-uu j)≤max (N (uu i)) (N (uu j)):=xH _ _
   have:=hNu i;have:=hNu j;omega
  have hv':N (vv i-vv j)≤p:=by
   have h1:N (vv i-vv j)≤max (N (vv i)) (N (vv j)):=xH _ _
   have:=hNv i;have:=hNv j;omega
  have eL:(uu i-uu j)*a+(vv i-vv j)*b=L i-L j:=by simp only [L];grind
  obtain⟨c,VD⟩:=MH (x:=(uu i-uu j)*a+(vv i-vv j)*b) (n:=m) (hNL _ _ hu' hv') (fun s hs=>by
   rw [eL,MG,e3 s hs];omega)
  have pP:∀(B n k k':Nat),∀c∈(of (GD (B+1) n k)-of (GD (B+1) n k')).l,c.natAbs≤B:=fun B n k k' c hc=>by
   obtain⟨s,hs,rfl⟩:=List.getElem_of_mem hc
   rw [←cE hs,MG,MI,MI]
   have h3:∀k,0≤nth (GD (B+1) n k) s∧nth (GD (B+1) n k) s<((B+1:Nat):Int):=fun k=>by
    rcases Nat.lt_or_ge s (GD (B+1) n k).length with h4 | h4
    ·exact ME (Nat.succ_pos B) _ _ _ (bJ h4)
    ·rw [i0 h4];exact⟨by decide,by show(0:Int)<_;omega⟩
   have:=h3 k
   have:=h3 k'
   omega
  refine⟨uu i-uu j,vv i-vv j,c,fun h0=>?_,VD,by omega,by omega,pP _ _ _ _,pP _ _ _ _⟩
  rw [h0,show K 0=(0:ZX)from rfl]at VD
  have hvz:vv i-vv j=0:=Classical.byContradiction fun m7=>by
   have h1:dv a (vv i-vv j):=akc ha hc (b:=b) ⟨1,by decide, -(uu i-uu j),by
    show(1:ZX)*_=_
    have:(vv i-vv j)*b = -((uu i-uu j)*a):=by grind
    rw [this];grind⟩
   have:=h1.mF m7
   omega
  have huz:uu i-uu j=0:=Classical.byContradiction fun m7=>by
   have h1:(uu i-uu j)*a=0:=by rw [hvz]at VD;grind
   exact mE m7 ha h1
  have hd:∀(B n k k':Nat),of (GD (B+1) n k)-of (GD (B+1) n k')=0→GD (B+1) n k=GD (B+1) n k':=fun B n k k' h0=>by
   refine List.ext_getElem (by rw [yH,yH]) fun s hs yU=>?_
   have h3:=MG (of (GD (B+1) n k)) (of (GD (B+1) n k')) s
   rw [h0,show nth (0:ZX).l s=0 from qA s,MI,MI]at h3
   rw [←cE hs,←cE yU]
   omega
  have lt2:∀k,k≤n→k/P<(V+1)^p:=fun k hk=>(Nat.div_lt_iff_lt_mul hPp).2 (by rw [Nat.mul_comm];omega)
  have d1:i%P=j%P:=MF (Nat.succ_pos U) q _ _ (Nat.mod_lt i hPp) (Nat.mod_lt j hPp) (hd _ _ _ _ huz)
  have d2:i/P=j/P:=MF (Nat.succ_pos V) p _ _ (lt2 i (by omega)) (lt2 j hj) (hd _ _ _ _ hvz)
  have h6:=Nat.div_add_mod i P
  have h7:=Nat.div_add_mod j P
  rw [d1,d2]at h6
  omega
 ·obtain⟨c,zG,rfl⟩:=lL (show N a=1 by omega)
  refine⟨1,0,c,zG,by grind,by rw [BB];omega,by rw [aeU];omega,fun x hx=>?_,fun x hx=>by cases hx⟩
  have h1:(1:ZX).l = [1]:=rfl
  rw [h1]at hx
  simp at hx;subst hx;exact Nat.two_pow_pos _
end ZX
end Pm
namespace Pm
theorem rG(a b:Nat):(2:Rat)^(a+b)=2^a*2^b:=by
 induction b with
 | zero=>rw [Nat.add_zero,Rat.pow_zero,Rat.mul_one]
 | succ b ih=>rw [←Nat.add_assoc,Rat.pow_succ,Rat.pow_succ,ih];grind
theorem gW(a:Nat):(0:Rat)<2^a:=Rat.pow_pos (by decide)
theorem rH:∀a:Nat,(1:Rat)≤2^a
 | 0=>by simp
 | a+1=>by
  have:=rH a
  rw [Rat.pow_succ];grind
theorem JC{a b:Nat}(h:a≤b):(2:Rat)^a≤2^b:=by
 obtain⟨c,rfl⟩:∃c,b=a+c:=⟨b-a,by omega⟩
 rw [rG]
 have h1:=rH c
 have h2:=gW a
 have h3:=Rat.mul_le_mul_of_nonneg_left h1 (Rat.le_of_lt h2)
 grind
theorem MJ:∀a:Nat,(((2^a:Nat):Int):Rat)=2^a
 | 0=>by simp
 | a+1=>by
  rw [Nat.pow_succ,Rat.pow_succ,←MJ a,Int.natCast_mul,Rat.intCast_mul];rfl
theorem JD{c:Int}{s:Nat}(h:c.natAbs≤2^s):Ab (c:Rat) (2^s):=by
 have h1:=MJ s
 have h2:c≤((2^s:Nat):Int):=by omega
 have h3 : -((2^s:Nat):Int)≤c:=by omega
 have h4:=Rat.intCast_le_intCast.2 h2
 have h5:=Rat.intCast_le_intCast.2 h3
 rw [Rat.intCast_neg]at h5
 rw [h1]at h4 h5
 exact⟨h5,h4⟩
theorem V3(s β:Nat):∀k,GC (2^s) (2^β) k=2^(s+k*(β+2))
 | 0=>by simp [GC]
 | k+1=>by
  rw [GC,V3 s β k,show s+(k+1)*(β+2)=s+k*(β+2)+β+1+1 by rw [Nat.add_mul];omega,Rat.pow_succ,Rat.pow_succ,rG _ β]
  grind
namespace ZX
theorem axv{a:ZX}{s n β:Nat}(h:∀c∈a.l,c.natAbs≤2^s)(hN:N a≤n){t:Rat}(ht:Ab t (2^β)):Ab (e t a) (2^(s+n*(β+2))):=by
 have h1:=RA (S:=2^s) (B:=2^β) (t:=t) (Rat.le_of_lt (gW s)) (rH β) ht a.l fun c hc=>JD (h c hc)
 rw [V3]at h1
 refine h1.mono (JC ?_)
 have:a.l.length*(β+2)≤n*(β+2):=Nat.mul_le_mul_right _ hN
 omega
theorem af6{a:ZX}{s n β:Nat}(h:∀c∈a.l,c.natAbs≤2^s)(hN:N a≤n){r t:Rat}(hr:Ab r (2^β))(ht:Ab t (2^β)):Ab (dd r t a.l) (2^(s+n*(β+2)))∧Ab (cc r t a.l) (2^(s+n*(β+2))):=by
 have h1:=I5 (S:=2^s) (B:=2^β) (s:=r) (t:=t) (Rat.le_of_lt (gW s)) (rH β) hr ht a.l fun c hc=>JD (h c hc)
 have h2:=afJ (S:=2^s) (B:=2^β) (s:=r) (t:=t) (Rat.le_of_lt (gW s)) (rH β) hr ht a.l fun c hc=>JD (h c hc)
 rw [V3]at h1 h2
 have h3:a.l.length*(β+2)≤n*(β+2):=Nat.mul_le_mul_right _ hN
 exact⟨h1.mono (JC (by omega)),h2.mono (JC (by omega))⟩
def sk(s n l β:Nat):Nat:=n*(s+2+l)+n*(β+2)+1
def sx(a b:ZX)(s r l:Nat):Nat:=(l+2)*(N a+N b)+s*N b+r*N a
theorem axw{a b:ZX}{s r l β:Nat}(ha:a≠0)(hb:b≠0)(hA:∀c∈a.l,c.natAbs≤2^s)(hB:∀c∈b.l,c.natAbs≤2^r)(hl:N a+N b≤2^l)(hc:∀d,dv d a→dv d b→N d≤1)
  {t ε η:Rat} (ht:Ab t (2^β)) (hε:ε*2^(sx a b s r l-s+N b*(β+2)+1)≤1) (hη:η*2^(sx a b s r l-r+N a*(β+2)+1)≤1):kX ε (e t a)∨kX η (e t b):=by
 obtain⟨u,v,c,zG,he,hNu,hNv,hu,hv⟩:=aqV ha hb hA hB hl hc (Nat.le_refl _)
 have h1:=axv (β:=β) hu hNu ht
 have h2:=axv (β:=β) hv hNv ht
 have h3:e t u*e t a+e t v*e t b=(c:Rat):=by rw [←i7,←i7,←amS,he,yY]
 have h4:=uO zG
 rw [show(l+2)*(N a+N b)+s*N b+r*N a=sx a b s r l from rfl]at h1 h2
 rw [rG _ 1]at hε hη
 have hM:=gW (sx a b s r l-s+N b*(β+2))
 have hM2:=gW (sx a b s r l-r+N a*(β+2))
 generalize (2:Rat)^(sx a b s r l-s+N b*(β+2))=M at *
 generalize (2:Rat)^(sx a b s r l-r+N a*(β+2))=M2 at *
 refine Classical.byContradiction fun B5=>?_
 have e1:(2:Rat)^1=2:=by rw [Rat.pow_succ,Rat.pow_zero];grind
 rw [e1]at hε hη
 have key:∀x y E M:Rat,0<M→Ab y M→E*(M*2)≤1→¬kX E x → ∃δ:Rat,δ<1/2∧Ab (y*x) δ:=fun x y E M hM hy hE hx=>by
  have g1:=CJ hx
  obtain⟨m,g2,g3,g4⟩:∃m:Rat,m<E∧x≤m ∧ -x≤m:=by
   by_cases h:x ≤ -x
   ·exact⟨-x,by grind,h,Rat.le_refl⟩
   ·exact⟨x,by grind,Rat.le_refl,by grind⟩
  have g5:=hy.mul (show Ab x m from⟨by grind,g3⟩)
  refine⟨_,?_,g5⟩
  have g6:=Rat.mul_lt_mul_of_pos_left g2 hM
  grind
 obtain⟨d1,p1,p2,p3⟩:=key _ _ _ _ hM h1 hε fun h=>B5 (.inl h)
 obtain⟨d2,p4,p5,p6⟩:=key _ _ _ _ hM2 h2 hη fun h=>B5 (.inr h)
 rcases h4 with h4 | h4<;>grind
theorem af7{a b:ZX}{s n l β m:Nat}(hn:N a+N b≤n)(hm:m≤n):sx a b s s l-s+m*(β+2)+1≤sk s n l β:=by
 unfold sx sk
 have h1:(l+2)*(N a+N b)+s*N b+s*N a=(s+2+l)*(N a+N b):=by grind
 have h2:(s+2+l)*(N a+N b)≤(s+2+l)*n:=Nat.mul_le_mul_left _ hn
 have h3:m*(β+2)≤n*(β+2):=Nat.mul_le_mul_right _ hm
 rw [h1,Nat.mul_comm n]
 omega
theorem FM{ε:Rat}{i j:Nat}(h:ε*2^j≤1)(hij:i≤j):ε*2^i≤1:=by
 have h1:=JC hij
 have h2:=gW i
 by_cases h0:0≤ε
 ·have:=Rat.mul_le_mul_of_nonneg_left h1 h0;grind
 ·have:=Rat.mul_lt_mul_of_pos_right (show ε<0 by grind) h2;grind
theorem sep{a b:ZX}{s n l β:Nat}(ha:a≠0)(hb:b≠0)(hA:∀c∈a.l,c.natAbs≤2^s)(hB:∀c∈b.l,c.natAbs≤2^s)(hn:N a+N b≤n)(hl:n≤2^l)(hc:∀d,dv d a→dv d b→N d≤1)
  {t ε:Rat} (ht:Ab t (2^β)) (hε:ε*2^sk s n l β≤1):kX ε (e t a)∨kX ε (e t b):=
 axw (l:=l) ha hb hA hB (by omega) hc ht (FM hε (af7 hn (by omega))) (FM hε (af7 hn (by omega)))
theorem aqW{f:ZX}{s n l:Nat}(h:∀c∈f.l,c.natAbs≤2^s)(hN:N f≤n)(hl:n≤2^l):∀c∈(bX f).l,c.natAbs≤2^(s+l):=fun c hc=>by
 have h1:=p9 _ _ hc
 simp only [zO,List.mem_map,List.mem_range]at h1
 obtain⟨i,hi,rfl⟩:=h1
 rw [Int.natAbs_mul,Nat.pow_add]
 have h2:=V2 h (i+1)
 have h3:N f=f.l.length:=rfl
 exact Nat.mul_le_mul h2 (by rw [Int.natAbs_natCast];omega)
theorem akd{x y z:Rat}(h:(x<y∧y<z)∨(y<x∧z<y)):(if x≠0∧cD z≠cD x then 1 else 0:Nat)=(if x≠0∧cD y≠cD x then 1 else 0)+(if y≠0∧cD z≠cD y then 1 else 0):=by
 rcases cW x with ⟨h1,h2⟩ | ⟨h1,h2⟩ | ⟨h1,h2⟩<;>rcases cW y with ⟨h3,h4⟩ | ⟨h3,h4⟩ | ⟨h3,h4⟩<;>rcases cW z with ⟨h5,h6⟩ | ⟨h5,h6⟩ | ⟨h5,h6⟩ <;>
  rw [h2,h4,h6]<;>first
   | (exfalso;rcases h with ⟨h7,h8⟩ | ⟨h7,h8⟩<;>grind)
   | (have n1:(x≠0)=True:=eq_true (by grind)
      have n2:(y≠0)=True:=eq_true (by grind)
      simp only [n1,n2];decide)
   | (have n1:(x≠0)=False:=eq_false (by grind)
      have n2:(y≠0)=True:=eq_true (by grind)
      simp only [n1,n2];decide)
   | (have n1:(x≠0)=True:=eq_true (by grind)
      have n2:(y≠0)=False:=eq_false (by grind)
      simp only [n1,n2];decide)
def FN(f:ZX)(t:Rat):Int:=if e t f=0 then cD (e t (bX f))else cD (e t f)
theorem af8{x y:Rat}{σ:Int}(h:(σ=1∧x<y)∨(σ = -1∧y<x)):(if y=0 then σ else cD y)=(if (if x≠0∧cD y≠cD x then 1 else 0:Nat)=0 then 1 else -1)*(if x=0 then σ else cD x):=by
 rcases cW x with ⟨h1,h2⟩ | ⟨h1,h2⟩ | ⟨h1,h2⟩<;>rcases cW y with ⟨h3,h4⟩ | ⟨h3,h4⟩ | ⟨h3,h4⟩<;>rw [h2,h4]<;>first
   | (exfalso;rcases h with ⟨h7,h8⟩ | ⟨h7,h8⟩<;>grind)
   | (have n1:(x=0)=False:=eq_false (by grind)
      have n2:(y=0)=False:=eq_false (by grind)
      simp only [n1,n2,ne_eq,not_false_eq_true,true_and,if_false];decide)
   | (have n1:(x=0)=True:=eq_true (by grind)
      have n2:(y=0)=False:=eq_false (by grind)
      have:σ=1∨σ = -1:=by omega
      rcases this with rfl | rfl<;>first
        | (simp only [n1,n2,ne_eq,not_true_eq_false,false_and,if_false,if_true];decide)
        | (exfalso;rcases h with ⟨h7,h8⟩ | ⟨h7,h8⟩<;>grind))
   | (have n1:(x=0)=False:=eq_false (by grind)
      have n2:(y=0)=True:=eq_true (by grind)
      have:σ=1∨σ = -1:=by omega
      rcases this with rfl | rfl<;>first
        | (simp only [n1,n2,ne_eq,not_false_eq_true,true_and,if_false,if_true];decide)
        | (exfalso;rcases h with ⟨h7,h8⟩ | ⟨h7,h8⟩<;>grind))
structure aCQ(f:ZX)(B δ:Rat):Prop where
 par:∀s t,Ab s B→Ab t B→s<t→t-s≤δ→FN f t=(if ind f s t=0 then 1 else -1)*FN f s
def lk(s n l β:Nat):Nat:=sk (s+l) (n+n) (l+1) β+(s+l+n*(β+2))+2
theorem zY{L:List ZX}{f:ZX}(G:yC L f){s n l β:Nat}(hf:f≠0)(hA:∀c∈f.l,c.natAbs≤2^s)(hn:N f≤n)(hl:n≤2^l)(hc:∀d,dv d f→dv d (bX f)→N d≤1){δ:Rat}(hδ:δ*2^lk s n l β≤1):Lcl L f (2^β) δ∧aCQ f (2^β) δ:=by
 have hA':∀c∈f.l,c.natAbs≤2^(s+l):=fun c hc=>Nat.le_trans (hA c hc) (Nat.pow_le_pow_right (by decide) (by omega))
 have hD:=aqW hA hn hl
 have hND:=oE f
 have main:∀lo hi,Ab lo (2^β)→Ab hi (2^β)→lo<hi→hi-lo≤δ→vt L lo=vt L hi+ind f lo hi∧(e lo f=0→e hi f≠0)∧FN f hi=(if ind f lo hi=0 then 1 else -1)*FN f lo:=fun lo hi alo ahi hlh hw=>by
  have hδ0:0<δ:=by grind
  rw [lk,rG,rG]at hδ
  have hQ:=gW (s+l+n*(β+2))
  have hK:=gW (sk (s+l) (n+n) (l+1) β)
  generalize hQe:(2:Rat)^(s+l+n*(β+2))=Q at *
  generalize hKe:(2:Rat)^sk (s+l) (n+n) (l+1) β=κ at *
  have h22:(2:Rat)^2=4:=by rw [Rat.pow_succ,Rat.pow_succ,Rat.pow_zero];grind
  rw [h22]at hδ
  have hε:(1/κ)*κ=1:=Rat.div_mul_cancel (Rat.ne_of_gt hK)
  have hε0:0<1/κ:=(Rat.lt_div_iff hK).2 (by grind)
  generalize 1/κ=ε at *
  have hδQ:4*(δ*Q)≤ε:=by
   have h1:δ*(κ*Q*4)=(4*(δ*Q))*κ:=by grind
   rw [h1,←hε]at hδ
   exact Rat.le_of_mul_le_mul_right hδ hK
  have hin:∀x,lo≤x→x≤hi→Ab x (2^β):=fun x h1 h2=>cH alo ahi h1 h2
  by_cases hd0:bX f=0
  ·-- a constant
   have hN1:N f=1:=by
    have h0:=ZX.aF.1 hf
    rcases Nat.lt_or_ge (N f) 2 with h1 | h1
    ·omega
    ·exact absurd hd0 (LN h1)
   obtain⟨c,zG,rfl⟩:=lL hN1
   have hcv:∀x,cD (e x (K c))=cD (c:Rat):=fun x=>by rw [yY]
   have h1:=G.const hlh (σ:=cD (c:Rat)) (.inr (hcv lo)) (fun x _ _=>hcv x)
   have h2:ind (K c) lo hi=0:=if_neg fun h=>h.2 (by rw [hcv,hcv])
   have axy:(c:Rat)≠0:=fun h=>zG (by exact_mod_cast h)
   have hz:∀x,e x (K c)≠0:=fun x=>by rw [yY];exact axy
   exact⟨by rw [h1,h2];omega,fun h=>by rw [yY]at h;exact absurd h axy,by rw [h2,if_pos rfl,Int.one_mul,FN,FN,if_neg (hz _),if_neg (hz _),hcv,hcv]⟩
  have hb:=sep hf hd0 hA' hD (show N f+N (bX f)≤n+n by omega) (show n+n≤2^(l+1)by rw [Nat.pow_succ];omega) hc alo (ε:=ε) (by rw [hKe,hε];exact Rat.le_refl)
  have dsz:∀x y,lo≤x→x≤hi→lo≤y→y≤hi→Ab (dd x y f.l) Q∧Ab (cc x y f.l) Q∧Ab (dd x y (bX f).l) Q:=fun x y h1 h2 h3 h4=>by
   have g1:=af6 hA' hn (hin x h1 h2) (hin y h3 h4)
   have g2:=af6 hD (show N (bX f)≤n by omega) (hin x h1 h2) (hin y h3 h4)
   rw [hQe]at g1 g2
   exact⟨g1.1,g1.2,g2.1⟩
  have aF4:0≤δ*Q:=Rat.mul_nonneg (Rat.le_of_lt hδ0) (Rat.le_of_lt hQ)
  have small:∀h x,0≤h→h≤δ→Ab x Q→Ab (h*x) (δ*Q):=fun h x h1 h2 h3=>Ab.mul ⟨by grind,h2⟩ h3
  rcases hb with hb | hb
  ·-- one sign
   have yX:∀x,lo≤x→x≤hi→cD (e x f)=cD (e lo f)∧cD (e lo f)≠0:=fun x h1 h2=>by
    refine gD hb hε0 fun h=>?_
    have h3:=oG lo x f.l
    have h4:=small (x-lo) _ (by grind) (by grind) (dsz lo x Rat.le_refl (by grind) h1 h2).1
    rw [←h3]at h4
    obtain⟨p1,p2⟩:=h4
    have h5:e x f-e lo f=qv x f.l-qv lo f.l:=rfl
    rw [h5]at h
    rcases h with h | h<;>grind
   have h1:=G.const hlh (σ:=cD (e lo f)) (.inr rfl) (fun x h1 h2=>(yX x (by grind) h2).1)
   have h2:ind f lo hi=0:=if_neg fun h=>h.2 (yX hi (by grind) Rat.le_refl).1
   have hz:∀x,lo≤x→x≤hi→e x f≠0:=fun x h1 h2 h=>by
    obtain⟨g1,g2⟩:=yX x h1 h2
    rw [h,jX]at g1
    exact g2 g1.symm
   exact⟨by rw [h1,h2];omega,fun h=>absurd h (hz lo Rat.le_refl (by grind)),by rw [h2,if_pos rfl,Int.one_mul,FN,FN,if_neg (hz _ (by grind) Rat.le_refl),if_neg (hz _ Rat.le_refl (by grind)),(yX hi (by grind) Rat.le_refl).1]⟩
  ·-- rising or azI
   have mono:∀x y,lo≤x→x<y→y≤hi→cD (e y f-e x f)=cD (e lo (bX f))∧cD (e lo (bX f))≠0:=fun x y h1 h2 h3=>by
    have g1:=oG x y f.l
    have g2:=VO x y f.l
    have g3:dd x x f.l=e x (bX f):=(amU x f).symm
    have g4:=oG lo x (bX f).l
    have b1:=small (y-x) _ (by grind) (by grind) (dsz x y h1 (by grind) (by grind) h3).2.1
    have b2:=small (x-lo) _ (by grind) (by grind) (dsz lo x Rat.le_refl (by grind) h1 (by grind)).2.2
    rw [←g2]at b1
    rw [←g4]at b2
    have h5:e x (bX f)-e lo (bX f)=qv x (bX f).l-qv lo (bX f).l:=rfl
    have h6:=gD (y:=dd x y f.l) hb hε0 fun h=>by
     obtain⟨p1,p2⟩:=b1
     obtain⟨p3,p4⟩:=b2
     rcases h with h | h<;>grind
    have h7:e y f-e x f=qv y f.l-qv x f.l:=rfl
    rw [h7,g1,uN,eY (show 0<y-x by grind),Int.one_mul]
    exact h6
   have ZN:∀x y,lo≤x→x<y→y≤hi→(cD (e lo (bX f))=1∧e x f<e y f)∨(cD (e lo (bX f)) = -1∧e y f<e x f):=fun x y h1 h2 h3=>by
    obtain⟨g1,g2⟩:=mono x y h1 h2 h3
    rcases cW (e y f-e x f)with ⟨g3,g4⟩ | ⟨g3,g4⟩ | ⟨g3,g4⟩
    ·exact .inr ⟨by omega,by grind⟩
    ·omega
    ·exact .inl ⟨by omega,by grind⟩
   have dsg:∀x,lo≤x→x≤hi→cD (e x (bX f))=cD (e lo (bX f)):=fun x h1 h2=>by
    have g4:=oG lo x (bX f).l
    have b2:=small (x-lo) _ (by grind) (by grind) (dsz lo x Rat.le_refl (by grind) h1 h2).2.2
    rw [←g4]at b2
    have h5:e x (bX f)-e lo (bX f)=qv x (bX f).l-qv lo (bX f).l:=rfl
    exact(gD hb hε0 fun h=>by
     obtain⟨p3,p4⟩:=b2
     rcases h with h | h<;>grind).1
   refine⟨?_,fun h=>?_,?_⟩
   ·refine G.afM (P:=fun x y=>lo≤x→y≤hi→vt L x=vt L y+ind f x y) (fun x y z rL hyz p1 p2 hx hz=>?_) (fun B δ' hL x y hx hy rL hd h1 h2=>hL.turns x y hx hy rL hd) hlh Rat.le_refl Rat.le_refl
    rw [p1 hx (by grind),p2 (by grind) hz]
    have h1:=ZN x y hx rL (by grind)
    have h2:=ZN y z (by grind) hyz hz
    have h3:=akd (x:=e x f) (y:=e y f) (z:=e z f) (by
     rcases h1 with ⟨q1,q2⟩ | ⟨q1,q2⟩<;>rcases h2 with ⟨q3,q4⟩ | ⟨q3,q4⟩
     ·exact .inl ⟨q2,q4⟩
     ·omega
     ·omega
     ·exact .inr ⟨q2,q4⟩)
    have h4:ind f x z=ind f x y+ind f y z:=h3
    omega
   ·rcases ZN lo hi Rat.le_refl hlh Rat.le_refl with ⟨q1,q2⟩ | ⟨q1,q2⟩<;>grind
   ·have h1:=af8 (ZN lo hi Rat.le_refl hlh Rat.le_refl)
    unfold FN ind
    rw [dsg hi (by grind) Rat.le_refl]
    exact h1
 exact⟨⟨fun x y hx hy rL hd=>(main x y hx hy rL hd).1,fun x y hx hy rL hd=>(main x y hx hy rL hd).2.1⟩,⟨fun x y hx hy rL hd=>(main x y hx hy rL hd).2.2⟩⟩
end ZX
end Pm
namespace Pm
namespace ZX
theorem FO:∀l:List Int,∃s:Nat,∀c∈l,c.natAbs≤2^s
 | []=>⟨0,fun c hc=>by cases hc⟩
 | a::l=>by
  obtain⟨s,h⟩:=FO l
  refine⟨s+a.natAbs,fun c hc=>?_⟩
  rcases List.mem_cons.1 hc with rfl | hc
  ·have h1:c.natAbs<2^c.natAbs:=Nat.lt_two_pow_self
   exact Nat.le_trans (Nat.le_of_lt h1) (Nat.pow_le_pow_right (by decide) (by omega))
  ·exact Nat.le_trans (h c hc) (Nat.pow_le_pow_right (by decide) (by omega))
theorem RN(B:Rat):∃β:Nat,B≤2^β:=by
 have h1:=Rat.lt_floor_add_one B
 refine⟨(B.floor+1).toNat,Rat.le_trans (Rat.le_of_lt h1) ?_⟩
 have h2:((2^(B.floor+1).toNat:Int):Rat)=2^(B.floor+1).toNat:=by rw [Rat.intCast_pow];rfl
 rw [←h2]
 refine Rat.intCast_le_intCast.2 ?_
 have h3:(B.floor+1).toNat<2^(B.floor+1).toNat:=Nat.lt_two_pow_self
 have h4:((2^(B.floor+1).toNat:Nat):Int)=2^(B.floor+1).toNat:=by rw [Int.natCast_pow];rfl
 omega
theorem FP(k:Nat):∃δ:Rat,0<δ∧δ*2^k=1:=by
 have h:=gW k
 have h1:(1/2^k)*(2:Rat)^k=1:=Rat.div_mul_cancel (Rat.ne_of_gt h)
 exact⟨1/2^k,(Rat.lt_div_iff h).2 (by grind),h1⟩
theorem min2{a b:Rat}(ha:0<a)(hb:0<b):∃c:Rat,0<c∧c≤a∧c≤b:=by
 by_cases h:a≤b
 ·exact⟨a,ha,Rat.le_refl,h⟩
 ·exact⟨b,hb,by grind,Rat.le_refl⟩
theorem am0{P:Rat→Rat→Prop}(ht:∀a b c,a<b→b<c→P a b→P b c→P a c)(hs:∀B:Rat,1≤B → ∃δ:Rat,0<δ ∧ ∀a b,Ab a B→Ab b B→a<b→b-a≤δ→P a b){a b:Rat}(fQ:a<b):P a b:=by
 obtain⟨B,hB,ha,hb⟩:=kB a b
 obtain⟨δ,hδ,h⟩:=hs B hB
 exact aqJ hδ ht h ha hb fQ
theorem lip(p:ZX)(B:Rat)(hB:1≤B):∃Q:Rat,0<Q ∧ ∀a b,Ab a B→Ab b B→a≤b→Ab (e b p-e a p) ((b-a)*Q):=by
 obtain⟨S,hS,hc⟩:=CM p.l
 obtain⟨h3,_⟩:=pB hS hB p.l.length
 refine⟨GC S B p.l.length+1,by grind,fun a b ha hb fQ=>?_⟩
 have h1:=(I5 hS hB ha hb p.l hc).mono (show GC S B p.l.length≤GC S B p.l.length+1 by grind)
 have h2:=oG a b p.l
 have h4:e b p-e a p=qv b p.l-qv a p.l:=rfl
 rw [h4,h2]
 exact Ab.mul ⟨by grind,Rat.le_refl⟩ h1
def uX(a b:ZX):Prop:=∀d,dv d a→dv d b→N d≤1
theorem uX.mono{a b c d:ZX}(h:uX a b)(h1:dv c a)(h2:dv d b):uX c d:=fun x h3 h4=>h x (h3.trans h1) (h4.trans h2)
theorem axz{a b:ZX}(ha:a≠0)(hb:b≠0)(hc:uX a b)(B:Rat):∃ε:Rat,0<ε ∧ ∀t,Ab t B→kX ε (e t a)∨kX ε (e t b):=by
 obtain⟨s1,h1⟩:=FO a.l
 obtain⟨s2,h2⟩:=FO b.l
 obtain⟨β,hβ⟩:=RN B
 obtain⟨ε,h3,h4⟩:=FP (sk (s1+s2) (N a+N b) (N a+N b) β)
 exact⟨ε,h3,fun t ht=>sep (s:=s1+s2) (l:=N a+N b) (β:=β) ha hb (fun c hc=>Nat.le_trans (h1 c hc) (Nat.pow_le_pow_right (by decide) (by omega))) (fun c hc=>Nat.le_trans (h2 c hc) (Nat.pow_le_pow_right (by decide) (by omega))) (Nat.le_refl _) (Nat.le_of_lt Nat.lt_two_pow_self) hc (ht.mono hβ) (by rw [h4];exact Rat.le_refl)⟩
structure r7(f:ZX)(v:Rat→Nat):Prop where
 ne:f≠0
 RO:uX f (bX f)
 g:∃L,yC L f∧v=vt L
structure aCR(f:ZX)(v:Rat→Nat)(B δ:Rat):Prop where
 turns:∀s t,Ab s B→Ab t B→s<t→t-s≤δ→v s=v t+ind f s t
 simple:∀s t,Ab s B→Ab t B→s<t→t-s≤δ→e s f=0→e t f≠0
 par:∀s t,Ab s B→Ab t B→s<t→t-s≤δ→FN f t=(if ind f s t=0 then 1 else -1)*FN f s
def sg1(n:Nat):Int:=if n%2=0 then 1 else -1
theorem ake(a b:Nat):sg1 (a+b)=sg1 a*sg1 b:=by
 unfold sg1
 split<;>split<;>split<;>omega
theorem V4(f:ZX)(s t:Rat):ind f s t=0∨ind f s t=1:=by unfold ind;split<;>simp
namespace r7
variable {f:ZX} {v:Rat→Nat} (S:r7 f v)
include S
theorem uV(B:Rat):∃δ:Rat,0<δ∧aCR f v B δ:=by
 obtain⟨L,G,rfl⟩:=S.g
 obtain⟨s,h1⟩:=FO f.l
 obtain⟨β,hβ⟩:=RN B
 obtain⟨δ,h3,h4⟩:=FP (lk s (N f) (N f) β)
 obtain⟨h5,h6⟩:=zY G S.ne h1 (Nat.le_refl _) (Nat.le_of_lt Nat.lt_two_pow_self) S.RO (δ:=δ) (by rw [h4];exact Rat.le_refl)
 exact⟨δ,h3,fun s t hs ht=>h5.turns s t (hs.mono hβ) (ht.mono hβ),fun s t hs ht=>h5.simple s t (hs.mono hβ) (ht.mono hβ),fun s t hs ht=>h6.par s t (hs.mono hβ) (ht.mono hβ)⟩
theorem b6{a b:Rat}(fQ:a≤b):v b≤v a:=by
 obtain⟨L,G,rfl⟩:=S.g
 exact G.b6 fQ
theorem const{a b:Rat}(fQ:a<b){σ:Int}(h0:e a f=0∨cD (e a f)=σ)(h1:∀x,a<x→x≤b→cD (e x f)=σ):v a=v b:=by
 obtain⟨L,G,rfl⟩:=S.g
 exact G.const fQ h0 h1
theorem flat{a b:Rat}(fQ:a<b)(he:v a=v b):e b f≠0∧(e a f≠0→cD (e b f)=cD (e a f)):=by
 obtain⟨L,G,rfl⟩:=S.g
 exact G.flat fQ he
theorem root{s t:Rat}(iR:s<t)(h0:e t f=0):v t<v s:=by
 obtain⟨L,G,rfl⟩:=S.g
 exact G.root iR h0
theorem bg{a b:Rat}(hb:Bg a b f)(fQ:a<b):v a=v b:=by
 obtain⟨L,G,rfl⟩:=S.g
 exact G.bg hb fQ
theorem par{s t:Rat}(h:s≤t):FN f t=sg1 (v s-v t)*FN f s:=by
 rcases Rat.le_iff_lt_or_eq.1 h with h1 | rfl
 ·refine am0 (P:=fun a b=>FN f b=sg1 (v a-v b)*FN f a) (fun a b c h1 h2 p1 p2=>?_) (fun B hB=>?_) h1
  ·have:=S.b6 (Rat.le_of_lt h1)
   have:=S.b6 (Rat.le_of_lt h2)
   rw [p2,p1,show v a-v c=(v a-v b)+(v b-v c)by omega,ake];grind
  ·obtain⟨δ,hδ,hN⟩:=S.uV B
   refine⟨δ,hδ,fun a b ha hb fQ hd=>?_⟩
   have h1:=hN.turns a b ha hb fQ hd
   have h2:=hN.par a b ha hb fQ hd
   rw [h2,show v a-v b=ind f a b by omega]
   rcases V4 f a b with h3 | h3<;>rw [h3]<;>rfl
 ·rw [Nat.sub_self];show _=1*_;omega
end r7
theorem akf{f:ZX}{t:Rat}(h:e t f≠0):∃r:Rat,0<r ∧ ∀x,t-r≤x→x≤t+r→cD (e x f)=cD (e t f):=by
 obtain⟨B,hB,ha,hb⟩:=kB (t-1) (t+1)
 obtain⟨Q,hQ,hl⟩:=lip f B hB
 have hε:∃ε:Rat,0<ε∧kX ε (e t f):=by
  by_cases h0:0≤e t f
  ·exact⟨e t f,by grind, .inr Rat.le_refl⟩
  ·exact⟨-e t f,by grind, .inl (by grind)⟩
 obtain⟨ε,hε,NY⟩:=hε
 have h1:ε/(2*Q)*(2*Q)=ε:=Rat.div_mul_cancel (by grind)
 have h2:0<ε/(2*Q):=(Rat.lt_div_iff (by grind)).2 (by grind)
 generalize ε/(2*Q)=η at *
 obtain⟨r,hr,xE,bU⟩:=min2 (show (0:Rat)<1 by decide) h2
 refine⟨r,hr,fun x hx hy=>?_⟩
 have HJ:Ab x B:=cH ha hb (by grind) (by grind)
 have ht':Ab t B:=cH ha hb (by grind) (by grind)
 have hrQ:r*Q≤η*Q:=Rat.mul_le_mul_of_nonneg_right bU (Rat.le_of_lt hQ)
 refine(gD NY hε fun hn=>?_).1
 by_cases hxt:t≤x
 ·have h3:=hl t x ht' HJ hxt
  have h4:(x-t)*Q≤r*Q:=Rat.mul_le_mul_of_nonneg_right (by grind) (Rat.le_of_lt hQ)
  obtain⟨p1,p2⟩:=h3
  rcases hn with hn | hn<;>grind
 ·have h3:=hl x t HJ ht' (by grind)
  have h4:(t-x)*Q≤r*Q:=Rat.mul_le_mul_of_nonneg_right (by grind) (Rat.le_of_lt hQ)
  obtain⟨p1,p2⟩:=h3
  rcases hn with hn | hn<;>grind
namespace r7
variable {f:ZX} {v:Rat→Nat} (S:r7 f v)
include S
theorem lft{t:Rat}(h:e t f≠0){a:Rat}(hat:a<t):∃s,a≤s∧s<t∧v s=v t∧cD (e s f)=cD (e t f):=by
 obtain⟨B,hB,ha,hb⟩:=kB a t
 obtain⟨δ,hδ,hN⟩:=S.uV B
 obtain⟨r1,xE,hc⟩:=akf h
 obtain⟨r2,bU,h1,h2⟩:=min2 hδ (show 0<t-a by grind)
 obtain⟨r,hr,h3,h4⟩:=min2 xE bU
 have hs:Ab (t-r) B:=cH ha hb (by grind) (by grind)
 have g1:=hN.turns (t-r) t hs hb (by grind) (by grind)
 have g5:=hc (t-r) (by grind) (by grind)
 have g4:ind f (t-r) t=0:=if_neg fun hh=>hh.2 g5.symm
 exact⟨t-r,by grind,by grind,by omega,g5⟩
theorem small{s t Q:Rat}(iR:s<t)(hv:v s≠v t)(hQ:0<Q)(hl:∀a b,s≤a→a≤b→b≤t→Ab (e b f-e a f) ((b-a)*Q)){x:Rat}(hx:s≤x)(hy:x≤t):Ab (e x f) ((t-s)*Q):=by
 refine Classical.byContradiction fun hn=>hv ?_
 have key:∀y,s≤y→y≤t→cD (e y f)=cD (e x f):=fun y h1 h2=>by
  have h3:Ab (e y f-e x f) ((t-s)*Q):=by
   by_cases rL:x≤y
   ·exact(hl x y hx rL h2).mono (Rat.mul_le_mul_of_nonneg_right (by grind) (Rat.le_of_lt hQ))
   ·have h4:=(hl y x h1 (by grind) hy).mono (Rat.mul_le_mul_of_nonneg_right (show x-y≤t-s by grind) (Rat.le_of_lt hQ))
    obtain⟨p1,p2⟩:=h4
    exact⟨by grind,by grind⟩
  obtain⟨p1,p2⟩:=h3
  have h0:0≤(t-s)*Q:=Rat.mul_nonneg (by grind) (Rat.le_of_lt hQ)
  generalize (t-s)*Q=M at *
  rcases cW (e x f)with ⟨h5,h6⟩ | ⟨h5,h6⟩ | ⟨h5,h6⟩
  ·rw [h6]
   refine gS ?_
   have:e x f < -M:=Rat.not_le.1 fun h=>hn ⟨h,by grind⟩
   grind
  ·exact absurd ⟨by grind,by grind⟩ hn
  ·rw [h6]
   refine eY ?_
   have:M<e x f:=Rat.not_le.1 fun h=>hn ⟨by grind,h⟩
   grind
 exact S.const iR (σ:=cD (e x f)) (.inr (key s Rat.le_refl (Rat.le_of_lt iR))) fun y h1 h2=>key y (Rat.le_of_lt h1) h2
end r7
theorem JE{p q:Prop}[Decidable p][Decidable q](h:p↔q):(if p then 1 else 0:Nat)=if q then 1 else 0:=by
 by_cases hp:p
 ·rw [if_pos hp,if_pos (h.1 hp)]
 ·rw [if_neg hp,if_neg (fun hq=>hp (h.2 hq))]
theorem zZ{c x y z:Rat}(hc:c≠0)(h:c*x=y*z):cD x=cD c*(cD y*cD z):=by
 have h1:cD c*cD x=cD y*cD z:=by rw [←uN,←uN,h]
 rw [←h1]
 rcases cW c with ⟨h2,h3⟩ | ⟨h2,h3⟩ | ⟨h2,h3⟩
 ·rw [h3];omega
 ·exact absurd h2 hc
 ·rw [h3];omega
theorem r7.mul{f g h:ZX}{v w u:Rat→Nat}(Sf:r7 f v)(Sg:r7 g w)(Sh:r7 h u){c:Int}(hc:c≠0)(he:K c*f=g*h)(aCS:uX g h){s t:Rat}(iR:s≤t):v s+w t+u t=v t+w s+u s:=by
 rcases Rat.le_iff_lt_or_eq.1 iR with h1 | rfl
 ·refine am0 (P:=fun s t=>v s+w t+u t=v t+w s+u s) (fun a b c h1 h2 p1 p2=>by omega) (fun B hB=>?_) h1
  obtain⟨δ1,hδ1,N1⟩:=Sf.uV B
  obtain⟨δ2,hδ2,N2⟩:=Sg.uV B
  obtain⟨δ3,hδ3,N3⟩:=Sh.uV B
  obtain⟨ε,hε,aCW⟩:=axz Sg.ne Sh.ne aCS B
  obtain⟨Q1,hQ1,l1⟩:=lip g B hB
  obtain⟨Q2,hQ2,l2⟩:=lip h B hB
  have hQ:0<Q1+Q2:=by grind
  have e1:ε/(2*(Q1+Q2))*(2*(Q1+Q2))=ε:=Rat.div_mul_cancel (by grind)
  have e2:0<ε/(2*(Q1+Q2)):=(Rat.lt_div_iff (by grind)).2 (by grind)
  generalize ε/(2*(Q1+Q2))=δ4 at *
  obtain⟨m1,NF,a1,a2⟩:=min2 hδ1 hδ2
  obtain⟨m2,hm2,a3,a4⟩:=min2 hδ3 e2
  obtain⟨δ,hδ,a5,a6⟩:=min2 NF hm2
  refine⟨δ,hδ,fun s t hs ht dC hd=>?_⟩
  have t1:=N1.turns s t hs ht dC (by grind)
  have t2:=N2.turns s t hs ht dC (by grind)
  have t3:=N3.turns s t hs ht dC (by grind)
  have hcq:(c:Rat)≠0:=fun h0=>hc (Rat.intCast_eq_zero_iff.1 h0)
  have sgm:∀x,cD (e x f)=cD (c:Rat)*(cD (e x g)*cD (e x h)):=fun x=>by
   refine zZ hcq ?_
   rw [←i7,←he,i7,yY]
  have dl:∀Q,0<Q→Q≤Q1+Q2→(t-s)*Q<ε:=fun Q h0 h1=>by
   have h2:(t-s)*Q≤δ4*(Q1+Q2):=by
    have h3:=Rat.mul_le_mul_of_nonneg_right (show t-s≤δ4 by grind) (Rat.le_of_lt h0)
    have h4:=Rat.mul_le_mul_of_nonneg_left h1 (Rat.le_of_lt e2)
    grind
   have h5:δ4*(Q1+Q2)*2=ε:=by rw [←e1];grind
   grind
  have sc:=cW (c:Rat)
  have GK:cD (c:Rat)=1∨cD (c:Rat) = -1:=by
   rcases sc with ⟨_,h⟩ | ⟨h,_⟩ | ⟨_,h⟩
   ·exact .inr h
   ·exact absurd h hcq
   ·exact .inl h
  have ez:∀(p:ZX) x,(e x p≠0)=(cD (e x p)≠0):=fun p x=>propext ⟨fun h h0=>h (eU.1 h0),fun h h0=>h (by rw [h0];exact jX)⟩
  rcases aCW s hs with hb | hb
  ·have hs2:=gD (y:=e t g) hb hε fun hn=>by
    obtain⟨p1,p2⟩:=l1 s t hs ht (Rat.le_of_lt dC)
    have:=dl Q1 hQ1 (by grind)
    rcases hn with hn | hn<;>grind
   have i1:ind g s t=0:=if_neg fun hh=>hh.2 hs2.1
   have i2:ind f s t=ind h s t:=by
    refine JE ?_
    rw [ez f s,ez h s,sgm s,sgm t,hs2.1]
    have:=o9 (e s g)
    have h7:cD (c:Rat)*cD (e s g)=1∨cD (c:Rat)*cD (e s g) = -1:=by
     rcases GK with h | h<;>rw [h]<;>omega
    rw [←Int.mul_assoc,←Int.mul_assoc]
    rcases h7 with h | h<;>rw [h]
    ·simp only [Int.one_mul]
    ·simp only [Int.neg_mul,Int.one_mul,ne_eq,Int.neg_eq_zero,Int.neg_inj]
   omega
  ·have hs2:=gD (y:=e t h) hb hε fun hn=>by
    obtain⟨p1,p2⟩:=l2 s t hs ht (Rat.le_of_lt dC)
    have:=dl Q2 hQ2 (by grind)
    rcases hn with hn | hn<;>grind
   have i1:ind h s t=0:=if_neg fun hh=>hh.2 hs2.1
   have i2:ind f s t=ind g s t:=by
    refine JE ?_
    rw [ez f s,ez g s,sgm s,sgm t,hs2.1]
    have:=o9 (e s h)
    have h7:cD (c:Rat)*cD (e s h)=1∨cD (c:Rat)*cD (e s h) = -1:=by
     rcases GK with h | h<;>rw [h]<;>omega
    have cm:∀y:Int,cD (c:Rat)*(y*cD (e s h))=cD (c:Rat)*cD (e s h)*y:=fun y=>by grind
    rw [cm,cm]
    rcases h7 with h | h<;>rw [h]
    ·simp only [Int.one_mul]
    ·simp only [Int.neg_mul,Int.one_mul,ne_eq,Int.neg_eq_zero,Int.neg_inj]
   omega
 ·omega
structure rT(f:ZX)(v:Rat→Nat)(lo hi:Rat):Prop where
 S:r7 f v
 k:(lo=hi∧e lo f=0)∨(lo<hi∧v lo=v hi+1)
def jN(v:Rat→Nat)(lo hi t:Rat):Prop:=hi≤t∨(lo<t∧v t<v lo)
noncomputable def cr(U:Rat→Prop)(t:Rat):Int:=open Classical in if U t then(if ∃s,s<t∧U s then -1 else 0)else 1
theorem tI{U:Rat→Prop}{t:Rat}:cr U t=1↔¬U t:=by
 unfold cr
 split
 ·rename_i h
  split<;>simp [h]
 ·rename_i h
  simp [h]
theorem z5{U:Rat→Prop}(hU:∀s t,U s→s≤t→U t){t:Rat}:cr U t = -1 ↔ ∃s,s<t∧U s:=by
 unfold cr
 split
 ·split
  ·rename_i h;simp [h]
  ·rename_i h;simp [h]
 ·rename_i h
  refine⟨fun h1=>absurd h1 (by decide),fun⟨s,h1,h2⟩=>absurd (hU s t h2 (Rat.le_of_lt h1)) h⟩
theorem yI{U:Rat→Prop}{t:Rat}:cr U t=0↔U t ∧ ∀s,s<t→¬U s:=by
 unfold cr
 split
 ·rename_i h
  split
  ·rename_i h2
   refine⟨fun h1=>absurd h1 (by decide),fun⟨_,h3⟩=>?_⟩
   obtain⟨s,h4,h5⟩:=h2
   exact absurd h5 (h3 s h4)
  ·rename_i h2
   exact⟨fun _=>⟨h,fun s h3 h4=>h2 ⟨s,h3,h4⟩⟩,fun _=>rfl⟩
 ·rename_i h
  exact⟨fun h1=>absurd h1 (by decide),fun h1=>absurd h1.1 h⟩
noncomputable def cu(U V:Rat→Prop):Int:=open Classical in if ∃t,U t∧¬V t then -1 else if ∃t,V t∧¬U t then 1 else 0
theorem akg(U:Rat→Prop):cu U U=0:=by
 unfold cu
 rw [if_neg (fun ⟨t,h1,h2⟩=>h2 h1),if_neg (fun ⟨t,h1,h2⟩=>h2 h1)]
theorem akh{U V:Rat→Prop}:cu U V=0 ↔ ∀t,U t↔V t:=by
 unfold cu
 split
 ·rename_i h
  refine⟨fun h1=>absurd h1 (by decide),fun h1=>?_⟩
  obtain⟨t,h2,h3⟩:=h
  exact absurd ((h1 t).1 h2) h3
 ·rename_i h
  split
  ·rename_i h'
   refine⟨fun h1=>absurd h1 (by decide),fun h1=>?_⟩
   obtain⟨t,h2,h3⟩:=h'
   exact absurd ((h1 t).2 h2) h3
  ·rename_i h'
   exact⟨fun _ t=>⟨fun h1=>Classical.byContradiction fun h2=>h ⟨t,h1,h2⟩,fun h1=>Classical.byContradiction fun h2=>h' ⟨t,h1,h2⟩⟩,fun _=>rfl⟩
theorem jE{v:Rat→Nat}{lo hi:Rat}:jN v lo hi hi:=.inl Rat.le_refl
namespace rT
variable {f:ZX} {v:Rat→Nat} {lo hi:Rat} (A:rT f v lo hi)
include A
theorem le:lo≤hi:=by
 rcases A.k with ⟨h,_⟩ | ⟨h,_⟩
 ·rw [h];exact Rat.le_refl
 ·exact Rat.le_of_lt h
theorem up{s t:Rat}(h:jN v lo hi s)(iR:s≤t):jN v lo hi t:=by
 rcases h with h | ⟨h1,h2⟩
 ·exact .inl (by grind)
 ·have:=A.S.b6 iR
  exact .inr ⟨by grind,by omega⟩
theorem nC{t:Rat}(h:t<lo∨(t=lo∧lo<hi)):¬jN v lo hi t:=by
 have:=A.le
 rintro(h1 | ⟨h1,_⟩)<;>grind
theorem axA(t:Rat):cr (jN v lo hi) t=if lo=hi then(if lo<t then -1 else if t<lo then 1 else 0)else if t≤lo then 1 else if hi<t then -1 else if v lo=v t then 1 else if e t f=0 then 0 else -1:=by
 have hup:=fun s t (h:jN v lo hi s) (h':s≤t)=>A.up h h'
 have hle:=A.le
 split
 ·rename_i h
  subst h
  have hU:∀t,jN v lo lo t↔lo≤t:=fun t=>⟨fun h=>by rcases h with h | h<;>grind,fun h => .inl h⟩
  split
  ·exact(z5 hup).2 ⟨lo,by assumption, .inl Rat.le_refl⟩
  ·split
   ·exact tI.2 (fun h=>by have:=(hU t).1 h;grind)
   ·exact yI.2 ⟨.inl (by grind),fun s h1 h2=>by have:=(hU s).1 h2;grind⟩
 ·rename_i m7
  have dC:lo<hi:=by grind
  have hk:v lo=v hi+1:=by
   rcases A.k with ⟨h,_⟩ | ⟨_,h⟩
   ·exact absurd h m7
   ·exact h
  split
  ·rename_i h
   exact tI.2 (A.nC (by grind))
  ·rename_i h1
   split
   ·rename_i h2
    exact(z5 hup).2 ⟨hi,h2,jE⟩
   ·rename_i h2
    have b1:=A.S.b6 (show lo≤t by grind)
    have b2:=A.S.b6 (show t≤hi by grind)
    split
    ·rename_i h3
     refine tI.2 ?_
     rintro(h4 | ⟨_,h4⟩)
     ·have:t=hi:=by grind
      subst this;omega
     ·omega
    ·rename_i h3
     split
     ·rename_i h4
      refine yI.2 ⟨.inr ⟨by grind,by omega⟩,fun s h5 h6=>?_⟩
      have h7:=A.S.root h5 h4
      rcases h6 with h6 | ⟨h6,h8⟩
      ·grind
      ·omega
     ·rename_i h4
      obtain⟨s,h5,h6,h7,_⟩:=A.S.lft h4 (show lo<t by grind)
      refine(z5 hup).2 ⟨s,h6, .inr ⟨?_,by omega⟩⟩
      rcases Rat.le_iff_lt_or_eq.1 h5 with h8 | rfl
      ·exact h8
      ·omega
theorem half{m:Rat}(h1:lo<m)(h2:m<hi):(v m<v lo→rT f v lo m ∧ ∀t,jN v lo m t↔jN v lo hi t)∧(¬v m<v lo→rT f v m hi ∧ ∀t,jN v m hi t↔jN v lo hi t):=by
 have hk:v lo=v hi+1:=by
  rcases A.k with ⟨h,_⟩ | ⟨_,h⟩
  ·grind
  ·exact h
 have b1:=A.S.b6 (Rat.le_of_lt h1)
 have b2:=A.S.b6 (Rat.le_of_lt h2)
 refine⟨fun h=>⟨⟨A.S, .inr ⟨h1,by omega⟩⟩,fun t=>⟨?_,?_⟩⟩,fun h=>⟨⟨A.S, .inr ⟨h2,by omega⟩⟩,fun t=>⟨?_,?_⟩⟩⟩
 ·rintro(h3 | h3)
  ·have:=A.S.b6 h3
   exact .inr ⟨by grind,by omega⟩
  ·exact .inr h3
 ·rintro(h3 | h3)
  ·exact .inl (by grind)
  ·exact .inr h3
 ·rintro(h3 | ⟨h3,h4⟩)
  ·exact .inl h3
  ·exact .inr ⟨by grind,by omega⟩
 ·rintro(h3 | ⟨h3,h4⟩)
  ·exact .inl h3
  ·refine .inr ⟨?_,by omega⟩
   refine Rat.not_le.1 fun h5=>?_
   have:=A.S.b6 h5
   omega
theorem exact(h:e hi f=0):rT f v hi hi ∧ ∀t,jN v hi hi t↔jN v lo hi t:=by
 refine⟨⟨A.S, .inl ⟨rfl,h⟩⟩,fun t=>⟨?_,?_⟩⟩
 ·rintro(h3 | ⟨h3,_⟩)
  ·exact .inl h3
  ·exact .inl (by grind)
 ·rintro(h3 | ⟨h3,h4⟩)
  ·exact .inl h3
  ·refine .inl (Rat.not_lt.1 fun h5=>?_)
   have h6:=A.S.root h5 h
   rcases A.k with ⟨h7,_⟩ | ⟨_,h7⟩
   ·grind
   ·omega
end rT
end ZX
end Pm
namespace Pm
open Go Go.RowKit
section
variable {E:Env} {m:Nat} {G:Gs} {w0:World} {S0:eG}
def mx3(p q r:PV)(K:PV→Prop):Prop:=∃k a b c,p = .int k a∧q = .int k b∧r = .int k c∧K (.int k (max (max a b) c))
@[simp] theorem azK{k:IntKind}{a b c:Int}{K:PV→Prop}:mx3 (.int k a) (.int k b) (.int k c) K=K (.int k (max (max a b) c)):=by
 apply propext
 constructor
 ·rintro⟨k',a',b',c',h1,h2,h3,h⟩
  cases h1;cases h2;cases h3;exact h
 ·exact fun h=>⟨k,a,b,c,rfl,rfl,rfl,h⟩
def axB(o:Oper)(K:PS→Prop)(σ:PS):Prop:=
 match o.op with
 | .call { callee:=.builtin .max,args:=⟨[x,y,z]⟩,argTypes:=_ }=>mx3 (aS σ.f x) (aS σ.f y) (aS σ.f z) fun v=>K (σ.put o.dst v)
 | _=>False
end
@[simp] theorem axC{K:PS→Prop}{f:Nat→PV}{rows:Rows}{clk:Nat}{d:Option Tmp}{ty:TypeId}{pos:String}{af:Array Edge}{ts:Array TypeId}{x y z:Operand} :
  axB ⟨d, .call { callee:=.builtin .max,args:=⟨[x,y,z]⟩,argTypes:=ts },ty,pos,af,none⟩ K ⟨f,rows,clk⟩=mx3 (aS f x) (aS f y) (aS f z) fun v=>K ⟨put f d v,rows,clk⟩:=rfl
section
variable {E:Env} {w0:World} {S0:eG} {n:Nat} {G:Gs}
theorem HB{id tl:Nat}{ops:Array Oper}{T:PS→Prop}{Q:Exit→Act→World→Prop}(fT:sJ E n tl ops true=true)(htl:tl≠0){σ:PS}{a:Act}{w:World}
  (h:aQ E ops.toList σ.clock 0 (ops.toList.take (ops.size-tl)) T ⟨σ.f,σ.rows,fun _ _=>False,fun _ _=>False⟩) (hR:Rel w0 S0 n G σ a w)
  (hT:∀σ' a' w',T σ'→Rel w0 S0 n G σ' a' w'→wpList E.P ops Q (ops.toList.drop (ops.size-tl)) a' w'):(Code.region id ops true).wp E.P Q a w:=by
 simp only [sJ,Bool.and_eq_true,Bool.not_true,Bool.false_or]at fT
 obtain⟨anS,vE,fT⟩:=fT
 have hd:∀o,o∈ops → ∀t,o.dst=some t→t<n:=by
  intro o ho t ht
  have:=Array.all_eq_true_iff_forall_mem.1 anS o ho
  simpa [ht]using this
 refine wp_region_any E.mixed ?_
 have J9:=hR.drew
 have hU0:∀k (l:Array Bool),pU w0 S0 n G (Ul E ops σ.clock k l) σ.f σ.rows a { w with drawn:=w.drawn+1 }:=fun k l=>J9.mono fun v hv => .inl hv
 have ah1:∀(l:List Oper),vN E l=true → ∀(i:Nat) (oi:Oper),l[i]? = some oi→eA E oi.op=true→oi.dst.isSome=true:=fun l h i oi hi hn=>by
  have:=List.all_eq_true.1 h oi (List.mem_of_getElem? hi)
  rw [hn]at this;simp at this;exact Option.isSome_iff_exists.2 (by obtain⟨x,hx⟩:=Option.isSome_iff_exists.1 this.1;exact⟨x,hx⟩)
 rw [if_neg htl]at fT vE
 have qM:∀i oi,i<ops.size-tl→ops[i]? = some oi→eA E oi.op=true→oi.dst.isSome=true:=fun i oi h1 hi=>ah1 _ vE i oi (by rw [List.getElem?_take,if_pos h1];simpa using hi)
 simp only [Bool.and_eq_true,decide_eq_true_eq]at fT
 obtain⟨hle,hB⟩:=fT
 simp only [Region.lexTailB,Bool.and_eq_true,decide_eq_true_eq]at hB
 obtain⟨⟨⟨⟨aAt,BR⟩,hs⟩,hc⟩,anT⟩:=hB
 have hl:=pZ (c0:=σ.clock) (ops.toList.take (ops.size-tl)) 0 _ _ (fun j hj=>by
  have hj':j<ops.size-tl:=by simpa using hj
  simp [hj']) vE (by simp [rk]) h
 have adf:HeadInv .any ops (ops.size-tl) (Array.replicate ops.size false):=
  ⟨by simp,fun j oj _ hl=>(by rw [getD_replicate_false]at hl;cases hl),fun t _ ht=>getD_in (by simpa using ht) (getD_replicate_false _ _)⟩
 have yV:(ops.toList.take (ops.size-tl)).length=ops.size-tl:=by simp
 have hdl:(ops.toList.drop (ops.size-tl)).length=ops.size-(ops.size-tl):=by simp
 have H:=tS (E:=E) (md:=.any) (n:=ops.size-tl) (g:=ops.size-(ops.size-tl)) qM (fun bB inv i hi XF t ht=>tail_waits hs hc BR inv _ i rfl hi XF t ht) (ops.toList.take (ops.size-tl)) 0 _ _ (fun j hj=>by
  rw [yV]at hj
  simp [hj]) (by rw [yV];simp) adf (by rw [yV];exact anT) hl
 have:=mI (E:=E) (md:=.any) (g:=ops.size-(ops.size-tl)) (Q:=Q) (m:=n) hd (fun bB st a' w' hL lZ=>by
  obtain⟨h1,h2⟩:=hL
  have h3:=hT _ a' w' h2 (lZ.mono fun v hv=>by have:=TP hv;simpa using this)
  have h4:=wpAny_of_seq (md:=.any) (Q':=Q) (ops.toList.drop (ops.size-tl)) (ops.size-tl) bB a' w' (fun j=>by simp [List.getElem?_drop]) (by rw [hdl];exact h1) h3
  rwa [hdl]at h4) _ _ _ _ _ (by simp) H (hU0 _ _)
 rw [yV,show ops.size-tl+(ops.size-(ops.size-tl))=ops.size by omega]at this
 exact this
end
theorem W.axD{E:Env}{n:Nat}{tl:Nat→Nat}{Q:PX→PS→Prop}{f:Nat→PV}{rows:Rows}{clk:Nat}{id:Nat}{ops:List Oper}{y:Code}(m:Nat){o:Oper}{r:List Oper}(hm:tl id=m+1)(ho:ops.drop (ops.length-(m+1))=o::r)(hg:o.guard=none)
  (h:∀K:PS→Prop,(∀σ,W E n tl y Q σ→K σ)→go (aQ E ops clk 0 (ops.take (ops.length-(m+1))) (fun σ=>G4 E o (aO E ops r K) σ) ⟨f,rows,fun _ _=>False,fun _ _=>False⟩)):W E n tl (.seq (.region id ops.toArray true) y) Q ⟨f,rows,clk⟩:=by
 refine W.seq ?_
 intro fT w0 S0 G a w Q' hR hQ
 have aqY:sJ E n (tl id) ops.toArray true=true:=by simpa [fF]using fT
 have hd:∀o∈ops,∀t,o.dst=some t→t<n:=fun o ho t ht=>by
  simp only [sJ,Bool.and_eq_true]at aqY
  have:=Array.all_eq_true_iff_forall_mem.1 aqY.1 o (by simpa using ho)
  simpa [ht]using this
 have h1:=h (fun σ=>W E n tl y Q σ) fun _ h=>h
 have pY:∀x∈o::r,x∈ops:=fun x hx=>by rw [←ho]at hx;exact List.mem_of_mem_drop hx
 refine HB (T:=fun σ=>G4 E o (aO E ops r (fun σ=>W E n tl y Q σ)) σ) aqY (by omega) (by rw [hm];exact h1) hR fun σ' a' w' hT lZ=>?_
 rw [hm]
 have e:ops.toArray.toList.drop (ops.toArray.size-(m+1))=o::r:=by simpa using ho
 rw [e]
 unfold wpList
 rw [if_pos (by simp [Region.wanted,hg])]
 refine .inl (wF hT lZ (hd o (pY o (by simp))) fun σ2 a2 w2 hk hR2=>?_)
 exact iX (E:=E) (ops:=ops.toArray) (fun σ3 a3 w3 hk3 hR3=>hQ .normal σ3 a3 w3 hk3 hR3) _ σ2 a2 w2 (fun o ho=>hd o (pY o (by simp [ho]))) hk hR2
end Pm
namespace Go.Proofs.YtiobceocpabjdaaGreat
open Go Pm
open ZX hiding N W
theorem ZO{α β:Type}{c:Prop}[Decidable c](f g:α→β)(x:α):(if c then f else g) x=if c then f x else g x:=by split<;>rfl
def NK(v:Rat→Nat):Nat→Rat→Rat→List (Rat × Rat)
 | 0,lo,hi=>if v lo=v hi then []else [(lo,hi)]
 | k+1,lo,hi=>if v lo=v hi then []else if v lo=v hi+1 then [(lo,hi)]else NK v k lo ((lo+hi)/2)++NK v k ((lo+hi)/2) hi
theorem tJ{lo hi:Rat}(h:lo<hi):lo<(lo+hi)/2∧(lo+hi)/2<hi:=by
 have h1:(lo+hi)/2*2=lo+hi:=Rat.div_mul_cancel (by decide)
 exact⟨by grind,by grind⟩
theorem yJ{lo hi δ:Rat}{k:Nat}(h:hi-lo≤δ*2^(k+1)):(lo+hi)/2-lo≤δ*2^k∧hi-(lo+hi)/2≤δ*2^k:=by
 have h1:(lo+hi)/2*2=lo+hi:=Rat.div_mul_cancel (by decide)
 rw [Rat.pow_succ]at h
 generalize (2:Rat)^k=p at *
 exact⟨by grind,by grind⟩
structure Gr(D:Nat)(B:Rat)(j:Nat)(q:Rat):Prop where
 z:∃z:Int,q*((D*2^j:Nat):Int)=(z:Rat)
 b:Ab q B
theorem Gr.mono{D:Nat}{B q:Rat}{i j:Nat}(h:Gr D B i q)(hij:i≤j):Gr D B j q:=by
 obtain⟨⟨z,hz⟩,hb⟩:=h
 obtain⟨k,rfl⟩:∃k,j=i+k:=⟨j-i,by omega⟩
 refine⟨⟨z*(2^k:Nat),?_⟩,hb⟩
 rw [Rat.intCast_mul,←hz,Nat.pow_add,←Nat.mul_assoc,Int.natCast_mul (D*2^i),Rat.intCast_mul]
 grind
theorem Gr.K4{D:Nat}{B p q:Rat}{j:Nat}(hp:Gr D B j p)(hq:Gr D B j q):Gr D B (j+1) ((p+q)/2):=by
 obtain⟨⟨y,hy⟩,b1,b2⟩:=hp
 obtain⟨⟨z,hz⟩,b3,b4⟩:=hq
 have h1:(p+q)/2*2=p+q:=Rat.div_mul_cancel (by decide)
 refine⟨⟨y+z,?_⟩,by grind,by grind⟩
 rw [Rat.intCast_add,←hy,←hz,Nat.pow_succ,←Nat.mul_assoc,Int.natCast_mul (D*2^j),Rat.intCast_mul]
 have h2:(((2:Nat):Int):Rat)=2:=rfl
 rw [h2]
 generalize (((D*2^j:Nat):Int):Rat)=M at *
 grind
theorem Gr.sq{D d β j:Nat}{q:Rat}(h:Gr D (2^β) j q)(h0:1≤D)(hD:D≤2^d):SQ (β+d+j+1) q:=by
 obtain⟨⟨z,hz⟩,hb⟩:=h
 have hM:1≤D*2^j:=Nat.mul_pos h0 (Nat.two_pow_pos _)
 have hM2:D*2^j≤2^(d+j):=by rw [Nat.pow_add];exact Nat.mul_le_mul_right _ hD
 have hMq:(0:Rat)<(((D*2^j:Nat):Int):Rat):=Rat.intCast_pos.2 (by omega)
 have hzb:z.natAbs≤2^(β+d+j):=by
  have h1:Ab (z:Rat) (((2^β*(D*2^j):Nat):Int):Rat):=by
   rw [←hz,Int.natCast_mul (2^β),Rat.intCast_mul,MJ]
   exact hb.mul ⟨by grind,Rat.le_refl⟩
  obtain⟨h2,h3⟩:=h1
  rw [←Rat.intCast_neg]at h2
  have h4:=Rat.intCast_le_intCast.1 h2
  have h5:=Rat.intCast_le_intCast.1 h3
  have h6:2^β*(D*2^j)≤2^(β+d+j):=by
   rw [Nat.add_assoc,Nat.pow_add];exact Nat.mul_le_mul_left _ hM2
  omega
 have e:=MC (n:=z) (d:=((D*2^j:Nat):Int)) (by omega) hz.symm
 have m7:((D*2^j:Nat):Int)≠0:=by omega
 have hnn:=uB z ((D*2^j:Nat):Int) m7
 have OG:=uC z ((D*2^j:Nat):Int) m7
 rw [if_neg (by omega)]at hnn OG
 rw [e]at hnn OG
 have b1:q.num.natAbs≤z.natAbs:=by rw [hnn];exact Int.natAbs_ediv_le_natAbs _ _
 have b2:((q.den:Int)).natAbs≤D*2^j:=by rw [OG];exact Nat.le_trans (Int.natAbs_ediv_le_natAbs _ _) (by omega)
 have hp:∀i,2^i<2^(i+1):=fun i=>Nat.pow_lt_pow_right (by decide) (by omega)
 refine⟨dV (by decide) (Nat.lt_of_le_of_lt (Nat.le_trans b1 hzb) (hp _)),dV (by decide) (Nat.lt_of_le_of_lt (Nat.le_trans b2 hM2) ?_),by omega⟩
 exact Nat.pow_lt_pow_right (by decide) (by omega)
structure Cut(v:Rat→Nat)(B δ:Rat):Prop where
 b6:∀a b,a≤b→v b≤v a
 uV:∀a b,Ab a B→Ab b B→a<b→b-a≤δ→v a≤v b+1
theorem Cut.leaf{v:Rat→Nat}{B δ:Rat}(C:Cut v B δ){lo hi:Rat}(y6:Ab lo B)(SK:Ab hi B)(h:lo<hi)(hd:hi-lo≤δ)(m7:v lo≠v hi):v lo=v hi+1:=by
 have:=C.uV lo hi y6 SK h hd
 have:=C.b6 lo hi (Rat.le_of_lt h)
 omega
theorem uP{v:Rat→Nat}{D:Nat}{B δ:Rat}(C:Cut v B δ):∀(k j:Nat) (lo hi:Rat),Gr D B j lo→Gr D B j hi→lo<hi→hi-lo≤δ*2^k →
  (∀p∈NK v k lo hi,Gr D B (j+k) p.1∧Gr D B (j+k) p.2∧lo≤p.1∧p.1<p.2∧p.2≤hi∧v p.1=v p.2+1)∧(NK v k lo hi).length=v lo-v hi∧(NK v k lo hi).Pairwise fun p q=>p.2≤q.1
 | 0,j,lo,hi,g1,g2,h,hd=>by
  rw [NK]
  split
  ·rename_i he
   exact⟨fun p hp=>absurd hp List.not_mem_nil,by rw [he];simp,List.Pairwise.nil⟩
  ·rename_i he
   have:=C.leaf g1.b g2.b h (by rw [Rat.pow_zero,Rat.mul_one]at hd;exact hd) he
   refine⟨fun p hp=>?_,by simp;omega,List.pairwise_singleton _ _⟩
   rw [List.mem_singleton]at hp;subst hp
   exact⟨g1,g2,Rat.le_refl,h,Rat.le_refl,this⟩
 | k+1,j,lo,hi,g1,g2,h,hd=>by
  rw [NK]
  split
  ·rename_i he
   exact⟨fun p hp=>absurd hp List.not_mem_nil,by rw [he];simp,List.Pairwise.nil⟩
  ·rename_i he
   split
   ·rename_i LV
    refine⟨fun p hp=>?_,by simp;omega,List.pairwise_singleton _ _⟩
    rw [List.mem_singleton]at hp;subst hp
    exact⟨g1.mono (by omega),g2.mono (by omega),Rat.le_refl,h,Rat.le_refl,LV⟩
   ·obtain⟨m1,m2⟩:=tJ h
    obtain⟨d1,d2⟩:=yJ hd
    have gm:=g1.K4 g2
    obtain⟨a1,a2,a3⟩:=uP C k (j+1) lo ((lo+hi)/2) (g1.mono (by omega)) gm m1 d1
    obtain⟨b1,b2,b3⟩:=uP C k (j+1) ((lo+hi)/2) hi gm (g2.mono (by omega)) m2 d2
    have n1:=C.b6 lo ((lo+hi)/2) (Rat.le_of_lt m1)
    have n2:=C.b6 ((lo+hi)/2) hi (Rat.le_of_lt m2)
    rw [show j+1+k=j+(k+1)by omega]at a1 b1
    generalize (lo+hi)/2=m at *
    refine⟨fun p hp=>?_,by rw [List.length_append,a2,b2];omega,List.pairwise_append.2 ⟨a3,b3,fun p hp q hq=>?_⟩⟩
    ·rcases List.mem_append.1 hp with hp | hp
     ·obtain⟨c1,c2,c3,c4,c5,c6⟩:=a1 p hp
      exact⟨c1,c2,c3,c4,by grind,c6⟩
     ·obtain⟨c1,c2,c3,c4,c5,c6⟩:=b1 p hp
      exact⟨c1,c2,by grind,c4,c5,c6⟩
    ·obtain⟨c1,c2,c3,c4,c5,c6⟩:=a1 p hp
     obtain⟨d1,d2,d3,d4,d5,d6⟩:=b1 q hq
     grind
theorem SQ.mono{u w:Nat}{q:Rat}(h:SQ u q)(hu:u≤w):SQ w q:=⟨Nat.le_trans h.n2 hu,Nat.le_trans h.d2 hu,Nat.le_trans h.hu hu⟩
theorem SQ.LLs{u:Nat}{q:Rat}(h:SQ u q){k:Nat}(hu:u≤k):sz LL q.num≤k∧sz LL (q.den:Int)≤k:=⟨Nat.le_trans h.nL hu,Nat.le_trans h.dL hu⟩
theorem SQ.LLt{u:Nat}{q:Rat}(h:SQ u q){k:Nat}(hu:u<k):sz LL q.num<k∧sz LL (q.den:Int)<k:=⟨Nat.lt_of_le_of_lt h.nL hu,Nat.lt_of_le_of_lt h.dL hu⟩
structure oQ(s n:Nat)(f:ZX):Prop where
 lay:rZ s n f
 CI:1≤n
 nf:Nf f
 sq:Go.Proofs.YtiobceocpabjdaaGreat.sq f=f
 hs:s≤5000000
namespace oQ
variable {s n:Nat} {f:ZX} (I:oQ s n f)
include I
theorem ch:Ch s n f:=⟨I.lay.bz,I.lay.hn,I.CI,Nat.le_trans (Nat.mul_le_mul_right _ (by unfold qb;omega)) I.lay.hC⟩
theorem s1:1≤s:=by
 have h1:=I.lay.hs
 have h2:=I.CI
 rcases Nat.eq_zero_or_pos s with h | h
 ·rw [h]at h1;simp at h1;omega
 ·exact h
theorem hb:∀p∈bA f,BZ 4500000000 n p:=I.ch.all.1
theorem hl:(bA f).length≤21:=I.ch.all.2
theorem gz1:gz f (bX f)=1:=by
 have:=ZJ I.nf.ne
 rwa [I.sq]at this
theorem RO:uX f (bX f):=fun d h1 h2=>by
 have h3:=(fA f (bX f)).least h1 h2
 rw [I.gz1]at h3
 have:=h3.mF ZX.q9
 rwa [ZX.BB]at this
theorem L9:yC (bA f) f:=I.ch.L9 I.nf.ne I.gz1
theorem S:r7 f (vt (bA f)):=⟨I.nf.ne,I.RO,_,I.L9,rfl⟩
theorem szf:∀c∈f.l,c.natAbs≤2^s:=fun c hc=>by
 have h1:=jH (b:=2) (by decide) c
 have h2:=Nat.pow_le_pow_right (show 0<2 by decide) (I.ch.bz.sz c hc)
 omega
theorem cut(β:Nat):∃δ:Rat,0<δ∧δ*2^lk s n 5 β=1∧Cut (vt (bA f)) (2^β) δ:=by
 obtain⟨δ,h1,h2⟩:=FP (lk s n 5 β)
 have hn:=I.ch.hn
 obtain⟨h3,_⟩:=zY I.L9 (s:=s) (n:=n) (l:=5) (β:=β) I.nf.ne I.szf I.ch.bz.N (by omega) I.RO (by rw [h2];exact Rat.le_refl)
 refine⟨δ,h1,h2,fun a b fQ=>I.L9.b6 fQ,fun a b ha hb fQ hd=>?_⟩
 have:=h3.turns a b ha hb fQ hd
 rcases V4 f a b with h4 | h4<;>omega
end oQ
section
variable {c:List ZX} {n u:Nat} {p q:Rat} (hb:∀p∈c,BZ 4500000000 n p) (hn:n≤20) (hl:c.length≤21) (hp:SQ u p) (hq:SQ u q) (hu:u≤1000000000)
include hb hn hl hp hq hu
theorem af9:aE env.P 88 [CH c,RT p,RT q] (.int .i64 (if q<p then 0 else(vt c p:Int)-vt c q)):=by
 have z1:=dB hq.nL hq.dL hp.nL hp.dL (by omega) (aZ q) (aZ p) ⟨hq.nL,hq.dL⟩ ⟨hp.nL,hp.dL⟩
 have b1:=L2 (by omega) z1 (afY hb hn hl hp hu) (afY hb hn hl hq hu)
 rw [FK,FK]at b1
 simp only [kS]at b1
 exact b1
theorem aga:aE env.P 76 [aH zq c,RR p,RR q] (.int .i64 (if q<p then 0 else(vt c p:Int)-vt c q)):=by
 have yy:∀ {v:Int},sz 2 v≤u→sz 2 v≤YY:=fun h=>by simp only [YY];omega
 have b1:=RD (yy hp.n2) (yy hp.d2) (yy hq.n2) (yy hq.d2) (by omega) (afX hb hn hl hp hu) (afX hb hn hl hq hu)
 have hcm:(q.num*(p.den:Int)<p.num*(q.den:Int))=(q<p):=propext (by rw [←kS];exact mV.symm)
 rw [FK,FK]at b1
 simp only [hcm]at b1
 rw [dJ,dJ]
 exact b1
end
abbrev tc(q:Rat):List PV:=[.bool (decide (q.num<0)),us (aR LL q.num.natAbs), .bool (decide ((q.den:Int)<0)),us (aR LL (q.den:Int).natAbs)]
def ga(f:ZX)(p:Rat × Rat):List PV:=Po f.l::(tc p.1++tc p.2)
@[simp] theorem aCZ{f:ZX}{p:Rat × Rat}:ga f p=Po f.l::(tc p.1++tc p.2):=rfl
@[simp] theorem z6{f:ZX}{l:List (Rat × Rat)}:bK 9 (emap (ga f) l)=True:=cL fun _=>rfl
@[simp] theorem aq0{v e n:Nat}{f:ZX}{l:List (Rat × Rat)}:c9 (some ⟨v,e,n,emap (ga f) l⟩)=True:=b8 fun _=>rfl
theorem ML{f:ZX}{l:List (Rat × Rat)}:∀x∈emap (ga f) l,∀p∈x,bL p=true:=fun x hx p hp=>by
 simp only [emap,List.mem_map]at hx
 obtain⟨r,_,rfl⟩:=hx
 simp at hp
 rcases hp with rfl | rfl | rfl | rfl | rfl | rfl | rfl | rfl | rfl<;>rfl
theorem agb{f:ZX}{c:List ZX}{lo hi:Rat}:mT env.P 72 [Po f.l,CH c,RT lo,RT hi, .int .i64 0] 54 9 []:=by
 show mT env.P _ [Po f.l, .rd [aH zp c],T2 lo.num lo.den,T2 hi.num hi.den, .int .i64 0] _ _ _
 generalize lo.num=ln at *
 generalize (lo.den:Int)=ld at *
 generalize hi.num=hn at *
 generalize (hi.den:Int)=hd at *
 generalize aH zp c=X at *
 refine qU (E:=env) (fun id=>if id=5 then 2 else if id=8 then 2 else 0) (t:=10) [(0,Po f.l),(1, .rd [X]),(2,T2 ln ld),(3,T2 hn hd),(4, .int .i64 0)] Tryz.func72 rfl (by kernel_rfl) (by kernel_rfl) (show 5≤48 by decide) rfl (by simp) ?_
 refine aA [0,1,4,7,8] ?_
 refine aK [0,1,4,7,8,13] ?_
 refine W.block ?_
 refine aA [0,1,4,7,8,13,14] ?_
 refine bH ?_ ?_<;>intro h
 ·refine aA [10] ?_
  refine W.nil 10 10 54 9 (by simp) (by decide) (fun K hK=>?_)
  simp
  refine hK _ ?_
  refine W.ret ?_
  exact⟨10,_,by simp;exact rfl,by simp,fun x hx=>by cases hx⟩
 ·simp at h
theorem aki{s n:Nat}{f:ZX}(I:oQ s n f){c:List ZX}{lo hi:Rat}{u:Nat}(q1:SQ u lo)(q2:SQ u hi)(hu:u≤1000000000):mT env.P 72 [Po f.l,CH c,RT lo,RT hi, .int .i64 1] 54 9 (emap (ga f) [(lo,hi)]):=by
 have N1:=eO (x:=f.l) (I.ch.bz.pb (by have:=I.hs;omega) (by have:=I.ch.hn;omega))
 rw [f.c]at N1
 obtain⟨l1,l2⟩:=q1.LLt (show u<1099511627770 by omega)
 obtain⟨l3,l4⟩:=q2.LLt (show u<1099511627770 by omega)
 have M1:=yD l1 l2
 have M2:=yD l3 l4
 rw [aZ]at M1 M2
 rw [show emap (ga f) [(lo,hi)] = [Po f.l::(tc lo++tc hi)]from rfl]
 show mT env.P _ [Po f.l, .rd [aH zp c],T2 lo.num lo.den,T2 hi.num hi.den, .int .i64 1] _ _ _
 replace M1:aE env.P 90 [T2 lo.num lo.den, .sl []] (T2 lo.num lo.den):=M1
 replace M2:aE env.P 90 [T2 hi.num hi.den, .sl []] (T2 hi.num hi.den):=M2
 clear l1 l2 l3 l4 q1 q2
 simp only [tc]
 generalize lo.num=ln at *
 generalize (lo.den:Int)=ld at *
 generalize hi.num=hn at *
 generalize (hi.den:Int)=hd at *
 generalize aH zp c=X at *
 refine qU (E:=env) (fun id=>if id=5 then 2 else if id=8 then 2 else 0) (t:=10) [(0,Po f.l),(1, .rd [X]),(2,T2 ln ld),(3,T2 hn hd),(4, .int .i64 1)] Tryz.func72 rfl (by kernel_rfl) (by kernel_rfl) (show 5≤48 by decide) rfl (by simp) ?_
 refine aA [0,1,4,7,8] ?_
 refine aK [0,1,4,7,8,13] ?_
 refine W.block ?_
 refine aA [0,1,4,7,8,13,14] ?_
 refine bH ?_ ?_<;>intro h
 ·simp at h
 ·refine aA [0,1,4,7,8,16] ?_
  refine bH ?_ ?_<;>intro h
  ·refine W.axD 1 rfl rfl rfl (fun K hK=>?_)
   simp (disch:=omega) [gw]
   refine cM N1 ?_
   refine cM M1 ?_
   refine cM M2 ?_
   refine W.lw [10] hK ?_;clear hK K;simp
   refine W.ret ?_
   exact⟨25,_,by simp;exact rfl,by simp,fun x hx p hp=>by
    simp at hx;subst hx
    simp at hp
    rcases hp with rfl | rfl | rfl | rfl | rfl | rfl | rfl | rfl | rfl<;>rfl⟩
  ·simp at h
theorem agc{f:ZX}{c:List ZX}{lo hi:Rat}{n k:Int}{la lb:List (Rat × Rat)}(hn:2≤n∧n≤21)(hk:0≤k∧k≤n)(ND:la.length≤21)(hlb:lb.length≤21)
  (M:aE env.P 91 [RT lo,RT hi] (RT ((lo+hi)/2))) (B:aE env.P 88 [CH c,RT lo,RT ((lo+hi)/2)] (.int .i64 k))
  (h1:mT env.P 72 [Po f.l,CH c,RT lo,RT ((lo+hi)/2), .int .i64 k] 54 9 (emap (ga f) la)) (h2:mT env.P 72 [Po f.l,CH c,RT ((lo+hi)/2),RT hi, .int .i64 (n-k)] 54 9 (emap (ga f) lb)) :
  mT env.P 72 [Po f.l,CH c,RT lo,RT hi, .int .i64 n] 54 9 (emap (ga f) (la++lb)):=by
 rw [←PG]
 have el1:(emap (ga f) la).length≤21:=by simpa [emap]using ND
 have el2:(emap (ga f) lb).length≤21:=by simpa [emap]using hlb
 have p1:=ML (f:=f) (l:=la)
 have p2:=ML (f:=f) (l:=lb)
 have a1:bK 9 (emap (ga f) la)=True:=z6
 have a2:bK 9 (emap (ga f) lb)=True:=z6
 show mT env.P _ [Po f.l, .rd [aH zp c],T2 lo.num lo.den,T2 hi.num hi.den, .int .i64 n] _ _ _
 replace M:aE env.P 91 [T2 lo.num lo.den,T2 hi.num hi.den] (T2 ((lo+hi)/2).num ((lo+hi)/2).den):=M
 replace B:aE env.P 88 [.rd [aH zp c],T2 lo.num lo.den,T2 ((lo+hi)/2).num ((lo+hi)/2).den] (.int .i64 k):=B
 replace h1:mT env.P 72 [Po f.l, .rd [aH zp c],T2 lo.num lo.den,T2 ((lo+hi)/2).num ((lo+hi)/2).den, .int .i64 k] 54 9 (emap (ga f) la):=h1
 replace h2:mT env.P 72 [Po f.l, .rd [aH zp c],T2 ((lo+hi)/2).num ((lo+hi)/2).den,T2 hi.num hi.den, .int .i64 (n-k)] 54 9 (emap (ga f) lb):=h2
 generalize ((lo+hi)/2).num=mn at *
 generalize (((lo+hi)/2).den:Int)=md at *
 generalize lo.num=ln at *
 generalize (lo.den:Int)=ld at *
 generalize hi.num=BR at *
 generalize (hi.den:Int)=hd at *
 generalize aH zp c=X at *
 generalize emap (ga f) la=ea at *
 generalize emap (ga f) lb=eb at *
 have w1:IntKind.wrap .i64 (n-k)=n-k:=wrap_i64 (by omega) (by omega)
 refine qU (E:=env) (fun id=>if id=5 then 2 else if id=8 then 2 else 0) (t:=10) [(0,Po f.l),(1, .rd [X]),(2,T2 ln ld),(3,T2 BR hd),(4, .int .i64 n)] Tryz.func72 rfl (by kernel_rfl) (by kernel_rfl) (show 5≤48 by decide) rfl (by simp) ?_
 refine aA [0,1,4,7,8] ?_
 refine aK [0,1,4,7,8,13] ?_
 refine W.block ?_
 refine aA [0,1,4,7,8,13,14] ?_
 refine bH ?_ ?_<;>intro h
 ·simp at h;omega
 ·refine aA [0,1,4,7,8,16] ?_
  refine bH ?_ ?_<;>intro h
  ·simp at h;omega
  ·refine W.skip ?_
   refine aL [0,1,4,7,8,11] M ?_
   refine aL [0,1,4,7,8,11,12] B ?_
   refine W.sd ?_
   rw [show(if 8=5 then 2 else if 8=8 then 2 else 0)=1+1 from rfl,gB]
   simp (disch:=omega) [gw]
   refine ad3 h1 rfl trivial ?_
   simp (disch:=omega) [gw,w1,ZO]
   refine ad3 h2 rfl trivial ?_
   simp (disch:=omega) [gw,a1,a2,ZO]
   refine bI [10] ?_
   refine W.ret ?_
   exact⟨38,5,by simp,by simp,fun x hx=>by
    rcases List.mem_append.1 hx with hx | hx
    ·exact p1 x hx
    ·exact p2 x hx⟩
theorem agd{s n:Nat}{f:ZX}(I:oQ s n f){D d β J:Nat}{δ:Rat}(IU:1≤D)(hD:D≤2^d)(C:Cut (vt (bA f)) (2^β) δ)(hu:β+d+J+1≤1000000000):∀(k j:Nat) (lo hi:Rat),j+k≤J→Gr D (2^β) j lo→Gr D (2^β) j hi→lo<hi→hi-lo≤δ*2^k →
  mT env.P 72 [Po f.l,CH (bA f),RT lo,RT hi, .int .i64 ((vt (bA f) lo:Int)-vt (bA f) hi)] 54 9 (emap (ga f) (NK (vt (bA f)) k lo hi)):=by
 have leaf:∀(j:Nat) (lo hi:Rat),j≤J→Gr D (2^β) j lo→Gr D (2^β) j hi→vt (bA f) lo=vt (bA f) hi+1→mT env.P 72 [Po f.l,CH (bA f),RT lo,RT hi, .int .i64 ((vt (bA f) lo:Int)-vt (bA f) hi)] 54 9 (emap (ga f) [(lo,hi)]):=fun j lo hi hj g1 g2 he=>by
  rw [show(vt (bA f) lo:Int)-vt (bA f) hi=1 by omega]
  exact aki I ((g1.mono hj).sq IU hD) ((g2.mono hj).sq IU hD) hu
 have am2:∀(lo hi:Rat),vt (bA f) lo=vt (bA f) hi→mT env.P 72 [Po f.l,CH (bA f),RT lo,RT hi, .int .i64 ((vt (bA f) lo:Int)-vt (bA f) hi)] 54 9 (emap (ga f) []):=fun lo hi he=>by
  rw [show(vt (bA f) lo:Int)-vt (bA f) hi=0 by omega]
  exact agb
 intro k
 induction k with
 | zero =>
  intro j lo hi hj g1 g2 dC hd
  rw [NK]
  by_cases he:vt (bA f) lo=vt (bA f) hi
  ·rw [if_pos he];exact am2 lo hi he
  ·rw [if_neg he];exact leaf j lo hi (by omega) g1 g2 (C.leaf g1.b g2.b dC (by rw [Rat.pow_zero,Rat.mul_one]at hd;exact hd) he)
 | succ k ih =>
  intro j lo hi hj g1 g2 dC hd
  rw [NK]
  by_cases he:vt (bA f) lo=vt (bA f) hi
  ·rw [if_pos he];exact am2 lo hi he
  ·rw [if_neg he]
   by_cases LV:vt (bA f) lo=vt (bA f) hi+1
   ·rw [if_pos LV];exact leaf j lo hi (by omega) g1 g2 LV
   ·rw [if_neg LV]
    obtain⟨m1,m2⟩:=tJ dC
    obtain⟨d1,d2⟩:=yJ hd
    have gm:=g1.K4 g2
    have n1:=C.b6 lo ((lo+hi)/2) (Rat.le_of_lt m1)
    have n2:=C.b6 ((lo+hi)/2) hi (Rat.le_of_lt m2)
    have hv1:=Nat.le_trans (amY (bA f) lo) I.hl
    obtain⟨_,a2,_⟩:=uP C k (j+1) lo ((lo+hi)/2) (g1.mono (by omega)) gm m1 d1
    obtain⟨_,b2,_⟩:=uP C k (j+1) ((lo+hi)/2) hi gm (g2.mono (by omega)) m2 d2
    have r1:=ih (j+1) lo ((lo+hi)/2) (by omega) (g1.mono (by omega)) gm m1 d1
    have r2:=ih (j+1) ((lo+hi)/2) hi (by omega) gm (g2.mono (by omega)) m2 d2
    have q1:SQ (β+d+J+1) lo:=(g1.mono (by omega)).sq IU hD
    have q2:SQ (β+d+J+1) hi:=(g2.mono (by omega)).sq IU hD
    have q3:SQ (β+d+J+1) ((lo+hi)/2):=(gm.mono (by omega)).sq IU hD
    have hM:=RM (q1.LLs (Nat.le_refl _)) (q2.LLs (Nat.le_refl _)) (by omega)
    have hB:=af9 I.hb I.ch.hn I.hl q1 q3 hu
    rw [if_neg (Rat.not_lt.2 (Rat.le_of_lt m1))]at hB
    refine agc (n:=(vt (bA f) lo:Int)-vt (bA f) hi) (k:=(vt (bA f) lo:Int)-vt (bA f) ((lo+hi)/2)) (by omega) (by omega) (by omega) (by omega) hM hB r1 ?_
    rw [show(vt (bA f) lo:Int)-vt (bA f) hi-((vt (bA f) lo:Int)-vt (bA f) ((lo+hi)/2))=(vt (bA f) ((lo+hi)/2):Int)-vt (bA f) hi by omega]
    exact r2
end Go.Proofs.YtiobceocpabjdaaGreat
namespace Go.Proofs.YtiobceocpabjdaaGreat
open Go Pm
open ZX hiding N W
theorem SQ.tor{u:Nat}{p:Rat}(hp:SQ u p)(hu:u≤YY):aE env.P 23 [RR p] (RT p):=by
 rw [dJ]
 have h1:=hp.n2;have h2:=hp.d2
 exact aj3 (by simp only [Z,YY]at *;omega) (by simp only [Z,YY]at *;omega)
def l1(x:List Int):Nat:=(x.map Int.natAbs).sum
theorem jZ(a:Int)(x:List Int):l1 (a::x)=a.natAbs+l1 x:=by simp [l1]
theorem MM:l1 []=0:=rfl
theorem MN:∀x:List Int,l1 (aP x)≤l1 x
 | []=>Nat.le_refl _
 | a::x=>by
  have:=MN x
  rw [aP]
  split
  ·rw [MM];omega
  ·rw [jZ,jZ];omega
theorem FQ{α:Type}(f g:α→Int):∀l:List α,l1 (l.map fun k=>f k+g k)≤l1 (l.map f)+l1 (l.map g)
 | []=>Nat.le_refl _
 | x::l=>by
  have:=FQ f g l
  simp only [List.map_cons,jZ]
  omega
theorem wM:∀(x:List Int) (n:Nat),l1 (x++List.replicate n 0)=l1 x
 | [],n=>by simp [l1]
 | a::x,n=>by rw [List.cons_append,jZ,jZ,wM x n]
theorem akj(x y:List Int):l1 (i3 x y)≤l1 x+l1 y:=by
 have h1:=FQ (nth x) (nth y) (List.range (max x.length y.length))
 rw [p8 (by omega),p8 (by omega),wM,wM]at h1
 exact Nat.le_trans (MN _) h1
theorem age(a:Int):∀y:List Int,l1 (y.map fun c=>c*a)=a.natAbs*l1 y
 | []=>by simp [l1]
 | c::y=>by rw [List.map_cons,jZ,jZ,age a y,Int.natAbs_mul,Nat.mul_add,Nat.mul_comm]
theorem RQ:∀x y:List Int,l1 (g9 x y)≤l1 x*l1 y
 | [],y=>by rw [g9,MM];omega
 | a::x,y=>by
  have h1:=RQ x y
  have h2:=akj (y.map fun c=>c*a) (0::g9 x y)
  rw [age,jZ]at h2
  rw [g9,jZ,Nat.add_mul]
  simp only [Int.natAbs_zero]at h2
  omega
def n1(a:ZX):Nat:=l1 a.l
theorem MO(a b:ZX):n1 (a*b)≤n1 a*n1 b:=Nat.le_trans (MN _) (RQ _ _)
theorem axE(x:List Int):n1 (of x)≤l1 x:=MN x
theorem aq1(c:Int):n1 (K c)≤c.natAbs:=Nat.le_trans (axE _) (by simp [l1])
theorem agf{a:ZX}{m:Nat}(h:n1 a≤m):∀k:Nat,n1 (a^k)≤m^k
 | 0=>aq1 1
 | k+1=>by
  rw [pow_succ',Nat.pow_succ]
  exact Nat.le_trans (MO _ _) (Nat.mul_le_mul (agf h k) h)
theorem agh:∀ {x:List Int} {c:Int},c∈x→c.natAbs≤l1 x
 | a::x,c,h=>by
  rw [jZ]
  rcases List.mem_cons.1 h with rfl | h
  ·omega
  ·have:=agh h;omega
theorem BZ.am3{s n:Nat}{a:ZX}(h:n1 a<2^s)(hn:ZX.N a≤n):BZ s n a:=⟨hn,fun c hc=>dV (by decide) (Nat.lt_of_le_of_lt (agh hc) h)⟩
theorem akk(l:List Int)(i:Nat):n1 (of (iJ l i))≤9^(ZX.N (of (iJ l i))-1)∧2≤ZX.N (of (iJ l i)):=by
 obtain⟨_,hl,_⟩:=CP l i
 have h9:=Int.emod_nonneg (nth l i) (show (9:Int)≠0 by decide)
 have h9':=Int.emod_lt_of_pos (nth l i) (show (0:Int)<9 by decide)
 have h5:=Int.emod_nonneg (nth l (i+1)) (show (5:Int)≠0 by decide)
 have h5':=Int.emod_lt_of_pos (nth l (i+1)) (show (0:Int)<5 by decide)
 have h3:=Int.emod_nonneg (nth l (i+2)) (show (3:Int)≠0 by decide)
 have h3':=Int.emod_lt_of_pos (nth l (i+2)) (show (0:Int)<3 by decide)
 unfold n1 ZX.N
 rw [hl]
 unfold iJ
 split
 ·simp only [jZ,MM,List.length_cons,List.length_nil]
  refine⟨?_,by omega⟩
  show _≤81
  omega
 ·simp only [jZ,MM,List.length_cons,List.length_nil]
  refine⟨?_,by omega⟩
  show _≤9
  omega
theorem RS(l:List Int)(most:Nat):∀j,n1 (eF l most j)≤9^(ZX.N (eF l most j)-1)
 | 0=>Nat.le_trans (aq1 1) (Nat.one_le_pow _ _ (by decide))
 | j+1=>by
  have ih:=RS l most j
  obtain⟨h0,_⟩:=oI l most j
  obtain⟨b1,b2,b3⟩:=CP l (3*j)
  obtain⟨e1,e2⟩:=L3 l (3*j)
  obtain⟨f1,f2⟩:=akk l (3*j)
  obtain⟨p1,p2,p3⟩:=afP b3 b1 _ e1
  show n1 (yE l most (3*j) (eF l most j))≤9^(ZX.N (yE l most (3*j) (eF l most j))-1)
  unfold yE
  split
  ·exact ih
  ·have h1:=Nat.mul_le_mul ih (agf f1 (tG l (3*j)))
   refine Nat.le_trans (MO _ _) (Nat.le_trans h1 ?_)
   rw [←Nat.pow_mul,←Nat.pow_add]
   refine Nat.pow_le_pow_right (by decide) ?_
   rw [ZX.jT h0 p2,p3,Nat.mul_comm]
   have:=ZX.aF.1 h0
   omega
theorem akl(l:List Int)(most:Nat):n1 (made l most)≤3*9^most∧ZX.N (made l most)≤most+1:=by
 have hN:=(ZC l most).2.N
 refine⟨?_,hN⟩
 have h1:=RS l most (min 6 (l.length/3))
 have h2:=(oI l most (min 6 (l.length/3))).2.N
 have h3:9^(ZX.N (eF l most (min 6 (l.length/3)))-1)≤9^most:=Nat.pow_le_pow_right (by decide) (by omega)
 unfold made
 split
 ·have h4:=MO (K (-3)) (eF l most (min 6 (l.length/3)))
  have h5:=aq1 (-3)
  exact Nat.le_trans h4 (Nat.mul_le_mul h5 (Nat.le_trans h1 h3))
 ·omega
end Go.Proofs.YtiobceocpabjdaaGreat
