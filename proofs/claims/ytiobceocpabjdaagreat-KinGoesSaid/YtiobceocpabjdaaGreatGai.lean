import Derived.Test.YtiobceocpabjdaaGreatGae
import Derived.Test.YtiobceocpabjdaaGreatGah
set_option linter.unusedSimpArgs false
set_option linter.unusedVariables false
namespace Pm
open Go Go.RowKit List
variable {k j clk ver n:Nat}{rows:Rows}{p:PV}{P:Program}{g tG:FuncId}{args:List PV}{R:PV->Rows->Nat->Prop}{ρ:Nat->Option Nat}{ds:List (Nat × Nat)}{e:TypeId}{els:List (List PV)}{E:Env}{fn:Func}{code:Code}
def Gt(ρ:Nat->Option Nat):PV->PV
 | .own id ver off len=>match ρ id with | some j => .own j ver off len | none => .undef
 | .ptr id ver i j=>match ρ id with | some k => .ptr k ver i j | none => .undef
 | .m7 t id ver=>match ρ id with | some k => .m7 t k ver | none => .undef
 | p=>p
def unV(ρ:Nat->Option Nat):PV->PV
 | .ag l => .ag (l.map (Gt ρ))
 | .cW l => .cW (l.map (Gt ρ))
 | .lR f fs bF => .lR f (fs.map (Gt ρ)) (bF.map (Gt ρ))
 | p=>Gt ρ p
def p8(ρ:Nat->Option Nat)(r:Row):Row:={ r with els:=r.els.map fun e=>e.map (Gt ρ) }
def oa(ρ:Nat->Option Nat)(σ:Nat->Nat)(rows:Rows):Rows:=fun j=>(rows (σ j)).map (p8 ρ)
def KW(ρ:Nat->Option Nat)(σ:Nat->Nat)(c:Cx):Cx:={ c with β:=fun j=>c.β (σ j),rows:=oa ρ σ c.rows }
def mG(k:Nat)(rows:Rows):Rows:=fun j=>if k<=j then(rows (j-k)).map (jP k)else none
theorem agc:mG k rows (j+k)=(rows j).map (jP k):=by simp [mG]
section
variable {ρ:Nat->Option Nat} {σ:Nat->Nat} (h1:∀i j,ρ i=some j->σ j=i)
include h1
theorem aB.un{c:Cx}{v:Value}(h:aB c p v):aB (KW ρ σ c) (Gt ρ p) v:=by
 cases p with
 | own id ver off len =>
  simp only [Gt];cases hρ:ρ id with
  | none=>trivial
  | some j =>
   simp only [aB]at h |-;refine⟨h.1,fun r hr hv=>?_⟩;have gI:(c.rows (σ j)).map (p8 ρ)=some r:=hr;rw [h1 id j hρ]at gI;obtain⟨r0,q1,rfl⟩:=Option.map_eq_some_iff.1 gI;have:=h.2 r0 q1 hv;show _<=(r0.els.map _).length∧_;rw [length_map];have e:(KW ρ σ c).β j=c.β id:=(by show c.β (σ j)=_;rw [h1 id j hρ]);rw [e];exact this
 | ptr id ver a b =>
  simp only [Gt];cases hρ:ρ id with
  | none=>trivial
  | some j =>
   simp only [aB]at h |-;refine⟨h.1,fun r hr hv=>?_⟩;have gI:(c.rows (σ j)).map (p8 ρ)=some r:=hr;rw [h1 id j hρ]at gI;obtain⟨r0,q1,rfl⟩:=Option.map_eq_some_iff.1 gI;have e:(KW ρ σ c).β j=c.β id:=(by show c.β (σ j)=_;rw [h1 id j hρ]);rw [e];exact h.2 r0 q1 hv
 | m7 t id ver =>
  simp only [Gt];cases hρ:ρ id with
  | none=>trivial
  | some j =>
   simp only [aB]at h |-;refine⟨h.1,fun r hr hv=>?_⟩;have gI:(c.rows (σ j)).map (p8 ρ)=some r:=hr;rw [h1 id j hρ]at gI;obtain⟨r0,q1,rfl⟩:=Option.map_eq_some_iff.1 gI;have e:(KW ρ σ c).β j=c.β id:=(by show c.β (σ j)=_;rw [h1 id j hρ]);rw [e];exact h.2 r0 q1 hv
 | undef=>trivial
 | _=>exact h
theorem Ci.un{c:Cx}{l:List PV}{vs:List Value}(h:aN (aB c) l vs):aN (aB (KW ρ σ c)) (l.map (Gt ρ)) vs:=by refine aN.bT (by simp [h.length]) fun i a b ha hb=>?_;simp at ha;obtain⟨q,hq,rfl⟩:=ha;obtain⟨b',gC,hr⟩:=h.get hq;rw [hb]at gC;cases gC;exact hr.un h1
theorem az.un{c:Cx}{p:PV}{v:Value}(h:az c p v):az (KW ρ σ c) (unV ρ p) v:=by
 cases p with
 | ag l=>obtain⟨vs,q1,q2⟩:=h;exact⟨vs,q1,Ci.un h1 q2⟩
 | cW l=>obtain⟨vs,q1,q2⟩:=h;exact⟨vs,q1,Ci.un h1 q2⟩
 | lR f fs bF=>obtain⟨us,cs,q1,q2,q3⟩:=h;exact⟨us,cs,q1,Ci.un h1 q2,Ci.un h1 q3⟩
 | own id ver off len=>exact eZ (aB.un h1 (p:=.own id ver off len) h)
 | ptr id ver i j=>exact eZ (aB.un h1 (p:=.ptr id ver i j) h)
 | m7 t id ver=>exact eZ (aB.un h1 (p:=.m7 t id ver) h)
 | undef=>trivial
 | _=>exact h
theorem Inv.un(h2:∀j,ρ (σ j)=some j){w0:World}{S0:dz}{c:Cx}(hI:Inv w0 S0 c):Inv w0 S0 (KW ρ σ c):=by
 have live:∀ {j:Nat} {r:Row},(KW ρ σ c).rows j=some r -> ∃r0,c.rows (σ j)=some r0∧r=p8 ρ r0:=fun {j r} hr=>by obtain⟨r0,q1,q2⟩:=Option.map_eq_some_iff.1 (show (c.rows (σ j)).map (p8 ρ)=some r from hr);exact⟨r0,q1,q2.symm⟩
 refine⟨hI.below,hI.ext,hI.new,hI.XV,fun j r hr=>?_,fun j r hr=>?_,fun j j' r r' g hr gI hg Sb=>?_,hI.fin⟩
 ·obtain⟨r0,q1,rfl⟩:=live hr;exact hI.clock _ r0 q1
 ·obtain⟨r0,q1,rfl⟩:=live hr;obtain⟨⟨xs,g1,g2,g3⟩,g4,g5,g6⟩:=hI.row _ r0 q1
  refine⟨⟨xs,?_,?_,g3⟩,fun e he=>?_,g5,g6⟩
  ·show c.w.ownsRow _ _ _ _ (r0.els.map _).length xs;rw [length_map];exact g1
  ·show aN _ (r0.els.map fun e=>e.map (Gt ρ)).flatten xs;rw [uT];exact Ci.un h1 g2
  ·obtain⟨e0,he0,rfl⟩:=mem_map.1 he;rw [length_map];exact g4 e0 he0
 ·obtain⟨r0,q1,rfl⟩:=live hr;obtain⟨r0',q1',rfl⟩:=live gI;have:=hI.apart (σ j) (σ j') r0 r0' g q1 q1' hg Sb;have e1:=h2 j;rw [this,h2 j']at e1;exact(Option.some.inj e1).symm
end
theorem nV.up{σ:Nat->Nat}(h1:∀i j,ρ i=some j->σ j=i)(h2:∀j,ρ (σ j)=some j)
  (h:nV P g (args.map (GG eI)) (mG eI rows) clk R) (hold:∀j,σ j=j+eI ∨ ∀r0 rows0 bV,R r0 rows0 bV -> ∀r,rows0 (σ j)=some r->clk<=r.ver) :
  nV P g args rows clk (fun r rows' bV=>∃r0 rows0,R r0 rows0 bV∧r=unV ρ r0∧rows'=oa ρ σ rows0):=by
 refine⟨h.1,fun w0 S0 c vs G hI gq eB di hG=>?_⟩;subst gq
 refine(h.2 w0 S0 (JN eI c) vs (fun x=>∃p,az c p x.2∧x.1=GG eI p) (hI.sh eI) rfl eB ?_ ?_).mono ?_
 ·refine aN.bT (by simp [di.length]) fun i a b ha hb=>?_;simp at ha;obtain⟨q,hq,rfl⟩:=ha;obtain⟨b',gC,hr⟩:=di.get hq;rw [hb]at gC;cases gC;exact hr.sh
 ·rintro⟨q,v⟩ ⟨p,hp,rfl⟩;exact hp.sh
 rintro x w' ⟨v,c',r0,bV,rfl,rfl,mh,B8,gR,tQ,JO⟩
 have back:∀ {p:PV} {v:Value},aB c p v->aB c' (pQ eI p) v->aB (KW ρ σ c') p v:=by
  intro p v hp lU
  have key:∀(id ver:Nat) (r:Row),c.used ver->(KW ρ σ c').rows id=some r->r.ver=ver -> ∃r',c'.rows (id+eI)=some r'∧r=p8 ρ r'∧σ id=id+eI:=by
   intro id ver r hu hr hv;obtain⟨r',q1,q2⟩:=Option.map_eq_some_iff.1 (show (c'.rows (σ id)).map (p8 ρ)=some r from hr)
   rcases hold id with h3 | h3
   ·exact⟨r',by rw [<-h3];exact q1,q2.symm,h3⟩
   ·have h4:=h3 r0 c'.rows bV gR r' q1;have h5:=eB ver hu;have h6:r'.ver=ver:=(by rw [<-hv,<-q2];rfl);omega
  cases p with
  | own id ver off len =>
   simp only [pQ,aB]at lU |-;refine⟨lU.1,fun r hr hv=>?_⟩;obtain⟨r',q1,rfl,q3⟩:=key id ver r (show c.used ver from hp.1) hr hv;have:=lU.2 r' q1 hv;show _<=(r'.els.map _).length∧_;rw [length_map];have e:(KW ρ σ c').β id=c'.β (id+eI):=(by show c'.β (σ id)=_;rw [q3]);rw [e];exact this
  | ptr id ver i j =>
   simp only [pQ,aB]at lU |-;refine⟨lU.1,fun r hr hv=>?_⟩;obtain⟨r',q1,rfl,q3⟩:=key id ver r (show c.used ver from hp.1.1) hr hv;have e:(KW ρ σ c').β id=c'.β (id+eI):=(by show c'.β (σ id)=_;rw [q3]);rw [e];exact lU.2 r' q1 hv
  | m7 t id ver =>
   simp only [pQ,aB]at lU |-;refine⟨lU.1,fun r hr hv=>?_⟩;obtain⟨r',q1,rfl,q3⟩:=key id ver r (show c.used ver from hp.1.1) hr hv;have e:(KW ρ σ c').β id=c'.β (id+eI):=(by show c'.β (σ id)=_;rw [q3]);rw [e];exact lU.2 r' q1 hv
  | undef=>trivial
  | _=>exact lU
 have uV:∀ {l:List PV} {vs:List Value},aN (aB c) l vs->aN (aB c') (l.map (pQ eI)) vs->aN (aB (KW ρ σ c')) l vs:=fun {l vs} h4 h6=>aN.bT h4.length fun i a b ha hb=>by obtain⟨b',gC,q1⟩:=h4.get ha;rw [hb]at gC;cases gC;obtain⟨b',gC,q2⟩:=h6.get (k:=i) (a:=pQ eI a) (by simp [ha]);rw [hb]at gC;cases gC;exact back q1 q2
 refine⟨v,KW ρ σ c',unV ρ r0,bV,rfl,rfl,mh.un h1 h2,fun p hp=>?_,⟨r0,c'.rows,gR,rfl,rfl⟩,tQ,JO.un h1⟩;have h3:=hG p hp;have h4:=B8 (GG eI p.1,p.2) ⟨p.1,h3,rfl⟩;obtain⟨p,v⟩:=p;simp only at h3 h4 |-;cases p with
 | ag l =>
  obtain⟨vs,q1,q2⟩:=h3;obtain⟨tM,q3,q4⟩:=h4;have:vs=tM:=by rw [q1]at q3;simpa using q3
  subst this;exact⟨vs,q1,uV q2 q4⟩
 | cW l =>
  obtain⟨vs,q1,q2⟩:=h3;obtain⟨tM,q3,q4⟩:=h4;have:vs=tM:=by rw [q1]at q3;simpa using q3
  subst this;exact⟨vs,q1,uV q2 q4⟩
 | lR f fs bF =>
  obtain⟨us,cs,q1,q2,q2'⟩:=h3;obtain⟨us',SL,q3,q4,q4'⟩:=h4;have:us=us'∧cs=SL:=by rw [q1]at q3;simpa using q3
  obtain⟨rfl,rfl⟩:=this;exact⟨us,cs,q1,uV q2 q4,uV q2' q4'⟩
 | _=>simp only [az,GG]at h3 h4 |-;exact back h3 h4
def rH(k:Nat)(ds:List (Nat × Nat))(j:Nat):Nat:=match ds.find? fun p=>p.2==j with | some p=>p.1 | none=>j+k
def E9(k:Nat)(ds:List (Nat × Nat))(i:Nat):Option Nat:=if k<=i then(if ds.any fun p=>p.2==i-k then none else some (i-k))else(ds.find? fun p=>p.1==i).map (·.2)
def HQ(k:Nat)(ds:List (Nat × Nat)):Prop:=(∀p∈ds,p.1<k)∧(∀p∈ds,∀q∈ds,p.1=q.1->p=q)∧(∀p∈ds,∀q∈ds,p.2=q.2->p=q)
theorem xk(h:HQ k ds){p:Nat × Nat}(hp:p∈ds):rH k ds p.2=p.1:=by
 unfold rH;cases hf:ds.find? fun q=>q.2==p.2 with
 | none =>
  have:=find?_eq_none.1 hf p hp;simp at this
 | some q =>
  have h1:=mem_of_find?_eq_some hf;have h2:=find?_some hf;rw [h.2.2 q h1 p hp (au h2)]
theorem kQ(h:∀p∈ds,p.2≠j):rH k ds j=j+k:=by unfold rH;rw [find?_eq_none.2 fun p hp=>by simpa using h p hp]
theorem KX(h:HQ k ds){p:Nat × Nat}(hp:p∈ds):E9 k ds p.1=some p.2:=by
 unfold E9;rw [if_neg (by have:=h.1 p hp;omega)];cases hf:ds.find? fun q=>q.1==p.1 with
 | none =>
  have:=find?_eq_none.1 hf p hp;simp at this
 | some q =>
  have h1:=mem_of_find?_eq_some hf;have h2:=find?_some hf;rw [h.2.1 q h1 p hp (au h2)];rfl
theorem NB(h:∀p∈ds,p.2≠j):E9 k ds (j+k)=some j:=by unfold E9;rw [if_pos (Nat.le_add_left _ _),Nat.add_sub_cancel,if_neg];simp only [any_eq_true,beq_iff_eq,not_exists,not_and];exact fun p hp=>h p hp
theorem nw1(h:HQ k ds)(i j:Nat)(hr:E9 k ds i=some j):rH k ds j=i:=by
 unfold E9 at hr
 split at hr
 ·split at hr
  ·cases hr
  ·rename_i h1 h2;have hr:=Option.some.inj hr;subst hr;simp only [any_eq_true,beq_iff_eq,not_exists,not_and]at h2;rw [kQ fun p hp=>h2 p hp];omega
 ·obtain⟨p,h1,rfl⟩:=Option.map_eq_some_iff.1 hr;have h2:=mem_of_find?_eq_some h1;have h3:=find?_some h1;rw [xk h h2];simpa using h3
theorem nw2(h:HQ k ds)(j:Nat):E9 k ds (rH k ds j)=some j:=by
 by_cases hx:∃p∈ds,p.2=j
 ·obtain⟨p,hp,rfl⟩:=hx;rw [xk h hp,KX h hp]
 ·have z7:∀p∈ds,p.2≠j:=fun p hp he=>hx ⟨p,hp,he⟩;rw [kQ z7,NB z7]
theorem Zw(h:aF p=true):Gt ρ p=p:=by cases p<;>simp_all [Gt,aF]
theorem ub{rows0:Rows}(hp:∀e∈els,∀p∈e,aF p=true)(h:rows0 (rH k ds j)=some ⟨ver,e,n,els⟩):oa (E9 k ds) (rH k ds) rows0 j=some ⟨ver,e,n,els⟩:=by
 unfold oa;rw [h];simp only [Option.map_some,p8];congr 2
 conv=>rhs;rw [<-map_id els]
 refine map_congr_left fun e he=>?_
 conv=>rhs;simp only [id];rw [<-map_id e]
 exact map_congr_left fun p hq=>Zw (hp e he p hq)
theorem Fa:mG k rows (j+k)=(rows j).map (jP k):=agc
theorem uc(hp:∀e∈els,∀p∈e,aF p=true)(h:rows j=some ⟨ver,e,n,els⟩):mG k rows (j+k)=some ⟨ver,e,n,els⟩:=by
 rw [Fa,h];simp only [Option.map_some,jP];congr 2
 conv=>rhs;rw [<-map_id els]
 refine map_congr_left fun e he=>?_
 conv=>rhs;simp only [id];rw [<-map_id e]
 exact map_congr_left fun p hq=>qM (hp e he p hq)
abbrev Zx(ds:List (Nat × Nat))(j:Nat):Nat:=rH eI ds j
abbrev nwR(ds:List (Nat × Nat))(i:Nat):Option Nat:=E9 eI ds i
abbrev Zy(ds:List (Nat × Nat)):Prop:=HQ eI ds
theorem UO{dD:List PV}{K:PV->Rows->Nat->Prop}(ds:List (Nat × Nat))(yW:Zy ds)(h:nV P g (dD.map (GG eI)) (mG eI rows) clk R)
  (hold:∀p∈ds,∀r0 rows0 bV,R r0 rows0 bV -> ∀r,rows0 p.1=some r->clk<=r.ver) (hK:∀r0 rows0 bV,R r0 rows0 bV->go (K (unV (nwR ds) r0) (oa (nwR ds) (Zx ds) rows0) bV)):jQ P g dD rows clk K:=by
 refine⟨_,nV.up (nw1 yW) (nw2 yW) h fun j=>?_,?_⟩
 ·by_cases hx:∃p∈ds,p.2=j
  ·obtain⟨p,hp,rfl⟩:=hx;right;rw [xk yW hp];exact hold p hp
  ·left;exact kQ fun p hp he=>hx ⟨p,hp,he⟩
 ·rintro r rows' bV ⟨r0,rows0,h1,rfl,rfl⟩;exact hK r0 rows0 bV h1
theorem UP:Zy []:=⟨av,av,av⟩
def x7(E:Env)(rs:List ResultVar)(R:PV->Rows->Nat->Prop):PX->PS->Prop
 | .normal,σ=>gU E σ rs fun vs=>vs.all cB=true∧R (kW vs) σ.rows σ.clock
 | .ret,σ=>gU E σ rs fun vs=>vs.all cB=true∧R (kW vs) σ.rows σ.clock
 | .exit _,_=>False
theorem mH(tl:Nat->Nat)(l:List (Nat × PV))(h1:E.P.funcs[tG]? = some fn)(h2:fn.body=some code) (h3:(fn.name == "runtime.NumGoroutine") = false)
  (ec:dQ E fn.ntmps tl code=true) (di:args.length<=fn.ntmps) (hl:∀p∈l,args.getD p.1 .undef=p.2) (h:W E fn.ntmps tl code (x7 E fn.results.toList R) ⟨fa l,rows,clk⟩):nV E.P tG args rows clk R:=by
 have hW:=W.ghf (E:=E) (n:=fn.ntmps) l (f:=fun s=>args.getD s .undef) (au hl) h;refine⟨⟨fn,code,h1,h2,h3⟩,fun w0 S0 c vs G hI hr eB fh hG=>?_⟩;refine calls_of_wp h1 h2 ?_;have Gj:=fh.length
 have Ap:Rel w0 S0 fn.ntmps G (EY args rows clk) { tmps:=vs.toArray++Array.replicate (fn.ntmps-vs.toArray.size) undef,defers:=[] } c.w:=
  ⟨⟨c,rfl,hr,eB,hI,fun s=>vu fh s,hG⟩,by simp;omega,rfl⟩
 refine hW ec w0 S0 G _ _ _ Ap ?_
 have fin:∀(σ':PS) a' w',(gU E σ' fn.results.toList fun vs=>vs.all cB=true∧R (kW vs) σ'.rows σ'.clock)->Rel w0 S0 fn.ntmps G σ' a' w'->a'.defers = [] ∧ ∃v,(results fn a'.tmps).run E.P w' = .ok v w' ∧
   ∃v' c' r bV,Ending.returned v = .returned v'∧c'.w=w'∧Inv w0 S0 c'∧(∀p∈G,az c' p.1 p.2)∧R r c'.rows bV∧(∀v,c'.used v->v<bV)∧az c' r v':=by
  rintro σ' a' w' hx ⟨⟨c',rfl,gI,tQ,mh,hf',B8⟩,hn,eW⟩;obtain⟨us,tM,⟨k1,k3⟩,k5,k6⟩:=ry (E:=E) (clk:=σ'.clock) mh (fn:=fn) hf' (by rw [gI];exact hx);refine⟨eW,_,k6,_,c',_,σ'.clock,rfl,rfl,mh,B8,by rw [gI];exact k3,tQ,?_⟩;have key:us.length≠1->az c' (.cW us) (.tuple tM.toArray):=fun _=>by refine⟨tM,rfl,aN.bT k5.length fun i a b ha hb=>?_⟩;obtain⟨b',gC,q⟩:=k5.get ha;rw [hb]at gC;cases gC;exact aB.ia (q.rep (all_eq_true.1 k1 a (mem_of_getElem? ha)))
  match us,tM,k5 with
  | [],[],_=>simpa [kW]using key av
  | [p],[v],k5=>simpa [kW]using k5.1
  | p::q::us,v::u::tM,k5=>simpa [kW]using key av
 intro x σ' a' w' hx gR;cases x with
 | normal=>exact fin σ' a' w' hx gR
 | ret=>exact fin σ' a' w' hx gR
 | exit id=>exact hx.elim
theorem NC{rows':Rows}{id:Nat}(h:∀m,m≠id->rows' (m+1000000)=rows (m+1000000))(j:Nat)(h1:eI<=j)(h2:j≠id+1000000):rows' j=rows j:=by
 obtain⟨m,rfl⟩:∃m,j=m+1000000:=⟨j-1000000,by have:eI=1000000:=rfl;omega⟩
 exact h m aa
theorem KY(tl:Nat->Nat){o:Option (Nat × Nat)}{gY:List (List PV)}{r:PV}(l:List (Nat × PV))(h1:E.P.funcs[tG]? = some fn)(h2:fn.body=some code) (h3:(fn.name == "runtime.NumGoroutine") = false)
  (ec:dQ E fn.ntmps tl code=true) (di:args.length+1<=fn.ntmps) (hl:∀q:PV,∀p∈(0,q)::l,(q::args).getD p.1 .undef=p.2)
  (h:∀id ver (rows:Rows) clk,rows (id+1000000)=some ⟨ver,e,n,els⟩->W E fn.ntmps tl code (x7 E fn.results.toList fun r' rows' _=>r'=r∧rows' (id+1000000)=some ⟨ver,e,n,gY⟩ ∧ ∀j,eI<=j->j≠id+1000000->rows' j=rows j) ⟨fa ((0,Xy o (id+1000000) ver)::l),rows,clk⟩) :
  wT E.P tG o args e n els gY r:=by
 intro id0 ver rows clk fp gq iZ;obtain⟨id,rfl⟩:∃id,id0=id+1000000:=⟨id0-1000000,by have:eI=1000000:=rfl;omega⟩
 exact mH tl ((0,Xy o (id+1000000) ver)::l) h1 h2 h3 ec (au di) (hl _) (h id ver rows clk gq)
end Pm
namespace Go.Proofs.YtiobceocpabjdaaGreat
open Go Pm List
variable {l m D g A B v c w:Int}{x y a b:List Int}{i k s n s':Nat}
set_option maxHeartbeats 2000000 in
theorem QM{l:List RE}(hl:l.length<1048576):gS env.P 37 [aw dr l] 85 9 (emap dr (yO l)):=by
 refine iy (E:=env) (fun _=>0) (t:=2) [(0,aw dr l)] Tryz.func37 rfl bX bX (show 1<=46 by decide) rfl av ?_;apply eQ [0] [0,3];refine W.nil 3 3 85 9 av ar fun K hK=>?_;refine W.lw [0,3] hK ?_;clear hK K;simp;apply dU [0,3,7,8]
 refine W.aO (fun k σ=>∃(i v3:Nat),aQ σ [(0,aw dr l),(3, .own 3 v3 0 i),(7,ae l.length),(8,ae i)] fun rows clk=>i+k=l.length∧rows 3=some ⟨v3,85,9,emap dr (yO (l.take i))⟩) l.length ?_ ?_
 ·exact⟨_, .refl,0,_,_,_,rfl,aa,by simp [yO,xY,emap]⟩
 rintro k _ ⟨i,v3,rows,clk,rfl,qu,bA⟩
 apply ef [0,3,7,8,9]<;>intro h
 ·have hi:i<l.length:=by simp at h;omega
  have yE:(yO (l.take i)).length=i:=by rw [HM,length_take];omega
  have fI:=QF hi;rw [vK,amu,yE]at fI;generalize yO (l.take i)=S at *;apply lW [0,3,4,7,8];apply fj bA [0,3,4,5,7,8];apply (iR)
  refine W.aO (fun k σ=>∃(j:Nat),σ=⟨fa [(0,aw dr l),(3, .own 3 v3 0 i),(4,ae i),(5,ae j),(7,ae l.length),(8,ae i)],rows,clk⟩∧j<=i∧ua RE.t (nth l i).t S i=ua RE.t (nth l i).t S j∧j=k) i ?_ ?_
  ·exact⟨_, .refl,i,rfl,Nat.le_refl _,rfl,rfl⟩
  rintro m _ ⟨j,rfl,B9,hp,rfl⟩;apply W.seq
  refine W.De (fun σ=>∃(b:Bool),σ=⟨fa [(0,aw dr l),(3, .own 3 v3 0 i),(4,ae i),(5,ae j),(7,ae l.length),(8,ae i),(28, .bool b)],rows,clk⟩∧b=bef RE.t (nth l i).t S j) (fun K hK=>?_) ?_
  ·cases j with
   | zero =>
    apply (cp);exact hK _ _ (ak _ [0,3,4,5,7,8,28]) ⟨_,rfl,rfl⟩
   | succ j =>
    have hL:=QD (nth l i).t (nth S j).t;simp only [y9]at hL;have hjS:j<S.length:=aa;have jO:(0:Int)<(j:Int)+1:=aa;simp (disch:=omega) [gw,bA,gV,hjS,jO,hi];apply cT hL;apply (cp);exact hK _ _ (ak _ [0,3,4,5,7,8,28]) ⟨_,rfl,rfl⟩
  rintro _ ⟨b,rfl,hb⟩
  apply (dI)<;>intro h
  ·subst h;cases j with
   | zero=>simp [bef]at hb
   | succ j =>
    have hb:tJ (nth l i).t (nth S j).t=true:=hb.symm;apply (qj);refine bB fun K hK=>?_;exact hK _ ⟨j,_,ak _ [0,3,4,5,7,8],aa,j,rfl,aa,by rw [hp,oM,if_pos hb],rfl⟩
  ·subst h;have hpj:=HK hb.symm;rw [hp,hpj]at fI;apply (ey);clear hp;have Ue:∀e∈emap dr (S.drop j),∀p∈e,aF p=true:=(by intro e he p hp;obtain⟨y,_,rfl⟩:=mem_map.1 he;exact all_eq_true.1 (vJ y) p hp);have hld:(S.drop j).length=i-j:=(by simp [yE]);have hT:List.take (i-j) (List.drop j (emap dr S))=emap dr (S.drop j):=(by rw [take_of_length_le (by simp [emap,yE])];simp [emap]);refine W.Dd fun K hK=>?_;simp (disch:=omega) [gw,bA,hi,gV,yE,hld,hT];refine aq4 (fun h=>by simpa [emap,yE]using h) (by simp [emap,yE];omega) ?_;apply (cp);refine aM (by refine⟨?_,?_,?_⟩<;>kernel_rfl) ?_;apply (cp);refine hK _ ?_;clear hK K;refine bB fun K hK=>?_;refine hK _ ⟨k-1,_,ak _ [0,3,7,8],aa,i+1,_,_,_,by rw [show j+(i-j+1)=i+1 by omega];rfl,aa,?_⟩;rw [fI];simp [emap,gV,RE.nz]
 ·have hi:i=l.length:=by simp at h;omega
  subst hi;rw [take_length]at bA;apply qZ [2];apply W.ret;refine⟨3,v3,by simp [emap,HM],bA,fun x hx p hp=>?_⟩;obtain⟨r,_,rfl⟩:=mem_map.1 hx;exact all_eq_true.1 (vJ r) p hp
theorem agd(n:Int)(h0:0<=n)(h1:n<4294967296):aj 269 [.int .u32 n] (ae (32-nb n.toNat)):=by apply bL [(0, .int .u32 n)] Tryz.func269;apply aR [0];apply lE (Dp n h0 h1);have:nb n.toNat<=32:=nC.2 aa;exact eK [2]
theorem Zz(l:List Int)(n:Nat)(hn:n<=31)(hl:l.length<1099511627775)(lm:cV 4294967296 l):aj 275 [us l,ae n] (N (V 4294967296 l*2^n)):=by
 apply bL [(0,us l),(1,ae n)] Tryz.func275;apply aR [0,1];have eB:=bS l;apply (oC);refine aU (dy l aa) ?_;apply bM [0,1];have lx:=eh lm;have hV:=c8 (b:=4294967296) l;rw [<-hV];have hxl:(aK l).length<1099511627775:=aa;clear hV;generalize aK l=x at *;have h65:¬(65536<(n:Int)):=aa;have e0:(if 0<n then(n:Int)else 0)=n:=by split<;>omega
 apply W.sr;simp (disch:=omega) [gw,h65,e0];apply c9 [0,1]
 apply cS [0,1,18]<;>intro h
 ·have h:x = []:=by simp at h;exact h
  subst h;apply aR [4];apply W.ret;simp [go,V];rfl
 have h:x ≠ []:=by simp at h;exact h
 apply W.skip;have d1:(n:Int)/32=0:=aa;have d2:(n:Int)%32=n:=aa;apply W.sr;simp (disch:=omega) [gw,d1,d2];apply c9 [0,5,6];apply aR [0,5,6,7];apply dU [5,6,7,30,31,32];have h2n:(2:Int)^n<=2147483648:=by have:=Int.ofNat_le.2 (Nat.pow_le_pow_right (show 0<2 by decide) hn);simpa using this
 have h2p:(0:Int)<2^n:=Int.pow_pos ar;have h2d:(2:Int)^n∣4294967296:=by refine⟨2^(32-n),?_⟩;rw [<-Int.pow_add,show n+(32-n)=32 by omega];rfl
 refine W.aO (fun q σ=>∃(i v:Nat) (z:List Int),aQ σ [(5,ae 0),(6, .int .u64 n),(7, .own 29 v 0 (x.length+1)),(30,us x),(31,ae x.length),(32,ae i)] fun rows clk =>
  rows 29=some ⟨v,185,1,emap u32 z⟩∧q=x.length-i∧i<=x.length∧z.length=x.length+1∧cV 4294967296 z∧V 4294967296 (z.take (i+1))=V 4294967296 (x.take i)*2^n∧nth z i<2^n) x.length ?_ ?_
 ·exact⟨_, .refl,0,_,replicate (x.length+1) 0,_,_,rfl,av,aa,aa,av,cV.rep ar _,by simp [V,replicate_succ],by rw [bJ av];simp;exact h2p⟩
 rintro q _ ⟨i,v,z,rows,clk,rfl,hr,hq,hi,hz,lz,hV,hzi⟩
 apply ef [5,6,7,30,31,32,33]<;>intro h
 ·have hi:i<x.length:=by simp at h;omega
  have hw:=lx.nth hi;apply lW [5,6,7,8,9,30,31,32];have hVx:=aT (b:=4294967296) hi;generalize hwe:nth x i=w at *;have hv0:0<=w*2^n:=Int.mul_nonneg hw.1 aa;have hv1:w*2^n<4294967296*2^n:=Int.mul_lt_mul_of_pos_right hw.2 h2p;have hvd:(2^n:Int)∣w*2^n:=⟨w,Int.mul_comm _ _⟩
  have hwr:IntKind.u64.wrap (w*2^n)=w*2^n:=wrap_u64 hv0 aa;have asb:=lz.nth (i:=i) aa;apply fj hwr [5,6,7,8,10,30,31,32];have asc:V 4294967296 (x.take (i+1))*2^n=V 4294967296 (x.take i)*2^n+4294967296^i*(w*2^n):=by rw [hVx];grind
  generalize hve:w*2^n=y at *;have amB:(2^n:Int)∣y%4294967296:=by rw [Int.emod_def];exact Int.dvd_sub hvd (Int.dvd_trans h2d (Int.dvd_mul_right _ _))
  have avE:y%4294967296+2^n<=4294967296:=by obtain⟨c,hc⟩:=amB;obtain⟨d,hd⟩:=h2d;have h1:(2^n:Int)*c<2^n*d:=(by have:=Int.emod_lt_of_pos y (show (0:Int)<4294967296 by decide);omega);have h2:c<d:=Int.lt_of_mul_lt_mul_left h1 aa;have h3:=Int.mul_le_mul_of_nonneg_left (show c+1<=d by omega) (show 0<=(2^n:Int)by omega);rw [Int.mul_add]at h3;omega
  have ZA:=(YW (a:=y%4294967296) (b:=nth z i) n aa asb.1 amB hzi aa).2;have hwy:IntKind.u32.wrap y=y%4294967296:=wrap_u32';apply W.sr;apply EV hr hz hwy ZA;apply c9 [5,6,7,8,10,30,31,32];refine q9 hz fun K hK=>?_;refine W.lw [5,6,7,30,31,32] hK ?_;clear hK K;simp;refine bB fun K hK=>?_
  refine hK _ ⟨x.length-(i+1),_,ak _ [5,6,7,30,31,32],aa,i+1,v,(z.set i (y%4294967296+nth z i)).set (i+1) (y/4294967296),_,_,rfl,av,aa,aa,by simp [hz],(lz.set ⟨aa,aa⟩).set ⟨aa,aa⟩,?_,?_⟩
  ·have q1:=fw (b:=4294967296) (l:=z.set i (y%4294967296+nth z i)) (i:=i+1) (x:=y/4294967296) (by simp;omega);have q2:=fw (b:=4294967296) (l:=z) (i:=i) (x:=y%4294967296+nth z i) aa;have q3:=aT (b:=4294967296) (l:=z) (i:=i) aa;have q4:=Int.mul_ediv_add_emod y 4294967296;rw [q1,q2,asc,<-hV,q3,Int.pow_succ];generalize y/4294967296=yq,y%4294967296=yr at *;rw [<-q4];grind
  ·rw [fe (by simp;omega)];omega
 ·have hi:i=x.length:=by simp at h;omega
  subst hi;have hVz:V 4294967296 z=V 4294967296 x*2^n:=by rw [aZ aa,aZ (Nat.le_refl _)]at hV;exact hV
  have zz:=bG hz;have nj:=dy z aa;rw [vA lz,hVz]at nj;apply (iq);simp (disch:=omega) [gw,hr,zz];apply cT nj;exact eK [4]
theorem HR(l:List Int)(n m:Nat)(hn:n<=31)(hl:l.length<1099511627775)(lm:cV 4294967296 l)(Jm:0<m)(Gp:m<1099511627776)(hb:V 4294967296 l*2^n<4294967296^m) :
  ∃y:List Int,gS env.P 270 [us l,ae n,ae m] 185 1 (emap u32 y)∧y.length=m∧cV 4294967296 y∧V 4294967296 y=V 4294967296 l*2^n:=by
 have hp:0<=V 4294967296 l*2^n:=Int.mul_nonneg (bH ar lm) (Int.le_of_lt (Int.pow_pos ar));obtain⟨N0,hN⟩:=Int.eq_ofNat_of_zero_le hp;have hS:=Zz l n hn hl lm;rw [hN]at hS hb
 replace hS:aj 275 [us l,ae n] (us (aI LL N0)):=hS
 have Tc:(aI LL N0).length<=m:=yX fV (by have h4:((4294967296^m:Nat):Int)=(4294967296:Int)^m:=Int.natCast_pow 4294967296 m;show N0<4294967296^m;omega);have ME:=fy fV N0;have UQ:=jT fV N0;refine⟨aI LL N0++replicate (m-(aI LL N0).length) 0,?_,by simp;omega,cV.append.2 ⟨ME,cV.rep ar _⟩,by rw [dK,pW,hN,<-UQ];simp⟩;generalize aI LL N0=D at *;refine iy (E:=env) (fun _=>0) (t:=6) [(0,us l),(1,ae n),(2,ae m)] Tryz.func270 rfl bX bX (show 3<=16 by decide) rfl av ?_;apply eQ [0,1,2] [0,1,7];refine W.EP fun K hK=>?_;apply my hS;refine alG (e':=185) (els:=emap u32 (replicate m 0)) (l:=emap u32 D) av av Jm rfl (fun e he=>by simp only [emap,mem_map]at he;obtain⟨x,_,rfl⟩:=he;rfl) ?_;have e1:(emap u32 (replicate m 0)).take 0++(emap u32 D).take m++(emap u32 (replicate m 0)).drop (0+min (emap u32 D).length m)=emap u32 (D++replicate (m-D.length) 0):=by simp only [emap,take_zero,nil_append,length_map,Nat.zero_add,map_append,Nat.min_eq_left Tc];rw [take_of_length_le (au Tc),<-map_drop,drop_replicate]
 rw [e1];generalize hy:D++replicate (m-D.length) 0=y at *;have Js:y.length=m:=by rw [<-hy];simp;omega
 apply (cp);refine W.lw [7] hK ?_;clear hK K;simp;apply aR [6];apply W.ret;exact⟨9,0,by simp [Js],av,fun x hx p hp=>by simp only [emap,mem_map]at hx;obtain⟨r,_,rfl⟩:=hx;simp at hp;subst hp;rfl⟩
theorem ZB(a:List Int)(w:Int)(ha:a.length<1099511627775)(la:cV 4294967296 a)(hw0:0<w)(wK:w<4294967296):aj 268 [us a, .int .u32 w] (.cW [N (V 4294967296 a/w), .int .u32 (V 4294967296 a%w)]):=by
 apply bL [(0,us a),(1, .int .u32 w)] Tryz.func268;apply aR [0,1];apply eQ [0,1,6] [0,1,6,7];apply dU [0,1,6,7,8]
 refine W.aO (fun q σ=>∃(v:Nat) (r:Int) (z:List Int),aQ σ [(0,us a),(1, .int .u32 w),(6, .own 12 v 0 a.length),(7, .int .u64 r),(8,ae ((q:Int)-1))] fun rows clk =>
  rows 12=some ⟨v,185,1,emap u32 z⟩∧q<=a.length∧z.length=a.length∧cV 4294967296 z∧V 4294967296 (z.drop q)*w+r=V 4294967296 (a.drop q)∧0<=r∧r<w) a.length ?_ ?_
 ·exact⟨_, .refl,0,0,replicate a.length 0,_,_,rfl,av,aa,av,cV.rep ar _,by simp [V],aa,hw0⟩
 rintro q _ ⟨v,r,z,rows,clk,rfl,hr,hq,hz,lz,hV,oq,tB⟩
 apply cS [0,1,6,7,8,17]<;>intro h
 ·have Jq:0<q:=by simp at h;omega
  obtain⟨j,rfl⟩:∃j,q=j+1:=⟨q-1,aa⟩
  clear h;have hj:=la.nth (i:=j) aa;have ej:((j+1:Nat):Int)-1=j:=aa;rw [ej];have hVa:V 4294967296 (a.drop j)=nth a j+4294967296*V 4294967296 (a.drop (j+1)):=by rw [fu aa];rfl
  generalize hxe:nth a j=x at *;have hrb:r*4294967296<18446744073709551616:=aa;have ZA:=(yZ (a:=r*4294967296) (b:=x) 32 aa hj.1 ⟨r,by rw [Int.mul_comm];rfl⟩ (au hj.2) aa).1;apply (ft);apply oD hxe ZA [0,1,6,8,9];have hs:(r*4294967296+x)/w<4294967296:=Int.ediv_lt_of_lt_mul hw0 (by have:=Int.mul_le_mul_of_nonneg_right (show r+1<=w by omega) (show (0:Int)<=4294967296 by decide);rw [Int.mul_comm 4294967296];omega);have Nb:0<=(r*4294967296+x)/w:=Int.ediv_nonneg aa aa;have Jm:=Int.emod_nonneg (r*4294967296+x) (show w≠0 by omega);have Gp:=Int.emod_lt_of_pos (r*4294967296+x) hw0;have Qf:=Int.mul_ediv_add_emod (r*4294967296+x) w;have hw':¬w=0:=aa;refine W.Dd fun K hK=>?_;apply qk hr hz hw';refine aM bX ?_;apply qk hr hz hw';refine W.lw [0,1,6,7,8] hK ?_;clear hK K;simp;refine bB fun K hK=>?_;refine hK _ ⟨j,_,ak _ [0,1,6,7,8],aa,v,(r*4294967296+x)%w,z.set j ((r*4294967296+x)/w),_,_,rfl,av,aa,by simp [hz],lz.set ⟨Nb,hs⟩,?_,Jm,Gp⟩;rw [fu (l:=z.set j _) (i:=j) (by simp;omega),fe aa,hVa,<-hV,drop_set_of_lt aa];simp only [V];generalize (r*4294967296+x)/w=qq,(r*4294967296+x)%w=rr at *;grind
 ·have Jq:q=0:=by simp at h;omega
  subst Jq;have zz:=bG hz;have nj:=dy z aa;simp only [drop_zero]at hV;have h1:V 4294967296 z=V 4294967296 a/w∧r=V 4294967296 a%w:=by have h2:V 4294967296 a/w=V 4294967296 z:=(by have e:(V 4294967296 z+1)*w=V 4294967296 z*w+w:=aG;rw [Int.ediv_eq_iff_of_pos hw0];constructor<;>omega);refine⟨h2.symm,?_⟩;have h3:=Int.emod_def (V 4294967296 a) w;rw [h2,Int.mul_comm]at h3;omega
  rw [vA lz,h1.1]at nj;have bE:=h1.2;apply (iq);simp (disch:=omega) [gw,hr,zz];apply cT nj;apply bM [4,5];apply W.ret;simp [go,bE]
theorem pj(h:x.length<=i):nth x i=0:=ir h
theorem ZC(l:List Int)(n:Nat)(hn:n<=31)(hl:l.length<1099511627775)(lm:cV 4294967296 l):aj 272 [us l,ae n] (N (V 4294967296 l/2^n)):=by
 apply bL [(0,us l),(1,ae n)] Tryz.func272;apply aR [0,1];have eB:=bS l;apply (oC);refine aU (dy l aa) ?_;apply bM [0,1];have lx:=eh lm;have hV:=c8 (b:=4294967296) l;rw [<-hV];have hxl:(aK l).length<1099511627775:=aa;clear hV;generalize aK l=x at *;have h65:¬(65536<(n:Int)):=aa;have e0:(if 0<n then(n:Int)else 0)=n:=by split<;>omega
 apply W.sr;simp (disch:=omega) [gw,h65,e0];apply c9 [0,1];have d1:(n:Int)/32=0:=aa;have d2:(n:Int)%32=n:=aa;apply W.sr;simp (disch:=omega) [gw,d1,d2];apply c9 [0,5,6]
 apply cS [0,5,6,23]<;>intro h
 ·have h:x = []:=by simp at h;exact h
  subst h;apply aR [4];apply W.ret;simp [go,V];rfl
 have h:x ≠ []:=by simp at h;exact h
 apply W.skip;apply aR [0,5,6,7];apply dU [0,5,6,7,30,31];have h2p:(0:Int)<2^n:=Int.pow_pos ar;have h2e:(0:Int)<2^(32-n):=Int.pow_pos ar;have h2d:(2:Int)^n*2^(32-n)=4294967296:=by rw [<-Int.pow_add,show n+(32-n)=32 by omega];rfl
 refine W.aO (fun q σ=>∃(i v:Nat) (z:List Int),aQ σ [(0,us x),(5,ae 0),(6, .int .u64 n),(7, .own 28 v 0 x.length),(30,ae x.length),(31,ae i)] fun rows clk =>
  rows 28=some ⟨v,185,1,emap u32 z⟩∧q=x.length-i∧i<=x.length∧z.length=x.length∧cV 4294967296 z∧2^n*V 4294967296 (z.take i)+nth x 0%2^n=V 4294967296 (x.take i)+(nth x i%2^n)*4294967296^i) x.length ?_ ?_
 ·exact⟨_, .refl,0,_,replicate x.length 0,_,_,rfl,av,aa,aa,av,cV.rep ar _,by simp [V]⟩
 rintro q _ ⟨i,v,z,rows,clk,rfl,hr,hq,hi,hz,lz,hV⟩
 apply ef [0,5,6,7,30,31,32]<;>intro h
 ·have hi:i<x.length:=by simp at h;omega
  have hw:=lx.nth hi
  have ND:0<=nth x (i+1)∧nth x (i+1)<4294967296:=by
   rcases Nat.lt_or_ge (i+1) x.length with h3 | h3
   ·exact lx.nth h3
   ·rw [pj h3];decide
  have hVx:=aT (b:=4294967296) hi;obtain⟨q1,q2,q3⟩:=T8 h2p h2e h2d hw ND;generalize hwe:nth x i=w at *;apply lW [0,5,6,7,8,30,31];apply fj hwe [0,5,6,7,8,9,30,31]
  refine W.fR (fun σ=>aQ σ [(0,us x),(5,ae 0),(6, .int .u64 n),(7, .own 28 v 0 x.length),(8,ae i),(9, .int .u64 (w+4294967296*nth x (i+1))),(30,ae x.length),(31,ae i)] fun rows clk=>rows 28=some ⟨v,185,1,emap u32 z⟩) ?_ ?_
  ·
   apply fi [0,5,6,7,8,9,30,31,47]<;>intro h
   ·have h:i+1<x.length:=(by simp at h;omega);have ZA:=(yZ (a:=nth x (i+1)*4294967296) (b:=w) 32 aa hw.1 ⟨nth x (i+1),by rw [Int.mul_comm];rfl⟩ (au hw.2) aa).2;rw [show nth x (i+1)*4294967296+w=w+4294967296*nth x (i+1)by omega]at ZA;refine q9 ZA fun K hK=>?_;exact hK _ ⟨_,ak _ [0,5,6,7,8,9,30,31],_,_,rfl,by simp [hr]⟩
   ·have h:x.length<=i+1:=(by simp at h;omega);rw [pj h];apply W.skip;exact⟨_,Gh.fr [(0,us x),(5,ae 0),(6, .int .u64 n),(7, .own 28 v 0 x.length),(8,ae i),(9, .int .u64 (w+4294967296*0)),(30,ae x.length),(31,ae i)] av,_,_,rfl,by simp [hr]⟩
  rintro _ ⟨rows,clk,rfl,hr⟩;have hwr:IntKind.u32.wrap ((w+4294967296*nth x (i+1))/2^n)=((w+4294967296*nth x (i+1))/2^n)%4294967296:=wrap_u32';have hfd:(w+4294967296*nth x (i+1)).fdiv (2^n)=(w+4294967296*nth x (i+1))/2^n:=Int.fdiv_eq_ediv_of_nonneg _ aa;refine W.wI fun K hK=>?_;apply EV hr hz hfd hwr;refine W.lw [0,5,6,7,30,31] hK ?_;clear hK K;simp;refine bB fun K hK=>?_;refine hK _ ⟨x.length-(i+1),_,ak _ [0,5,6,7,30,31],aa,i+1,v,z.set i (((w+4294967296*nth x (i+1))/2^n)%4294967296),_,_,rfl,av,aa,aa,by simp [hz],lz.set ⟨q2,q3⟩,?_⟩;rw [fw aa,hVx,Int.mul_add,Int.pow_succ];generalize ((w+4294967296*nth x (i+1))/2^n)%4294967296=o,nth x (i+1)%2^n=lo1,w%2^n=lo at *;have e2:(2:Int)^n*(4294967296^i*o)=4294967296^i*(2^n*o):=aG;rw [e2,q1];grind
 ·have hi:i=x.length:=by simp at h;omega
  subst hi;have zz:=bG hz;have nj:=dy z aa;rw [vA lz]at nj;rw [zz,take_of_length_le (Nat.le_refl _),pj (Nat.le_refl _)]at hV;have hVz:V 4294967296 x/2^n=V 4294967296 z:=by have h5:=Int.emod_nonneg (nth x 0) (show (2^n:Int)≠0 by omega);have h6:=Int.emod_lt_of_pos (nth x 0) h2p;rw [Int.zero_emod,Int.zero_mul,Int.add_zero]at hV;have e:(V 4294967296 z+1)*2^n=2^n*V 4294967296 z+2^n:=aG;have e':V 4294967296 z*2^n=2^n*V 4294967296 z:=Int.mul_comm _ _;rw [Int.ediv_eq_iff_of_pos h2p];constructor<;>omega
  rw [hVz];apply (iq);simp (disch:=omega) [gw,hr,zz];apply cT nj;exact eK [4]
theorem gj(z:List Int)(o k:Nat):nth (z.drop o) k=nth z (o+k):=by simp [nth,getElem?_drop]
theorem mj(z:List Int)(o k:Nat)(x:Int):(z.set (o+k) x).drop o=(z.drop o).set k x:=by rw [drop_set];rw [if_neg aa];congr 1;omega
set_option maxHeartbeats 2000000 in
theorem KZ{id ver off m:Nat}(zl y:List Int)(rows:Pm.Rows)(clk:Nat)(hr:rows id=some ⟨ver,185,1,emap u32 zl⟩)(Js:y.length=m+2)(hym:m<1099511627776)(ly:cV 4294967296 y)(axY:2147483648<=nth y (m+1))(lz:cV 4294967296 zl)
  (SC:off+m+3<=zl.length) (Ep:zl.length<1099511627776) (bZ:V 4294967296 ((zl.drop off).take (m+3))<4294967296*V 4294967296 y) :
  nV env.P 271 [.own id ver off (m+3),us y] rows clk (fun r rows' bV=>∃D:List Int,r = .int .u32 (V 4294967296 ((zl.drop off).take (m+3))/V 4294967296 y)∧rows'=dH rows id (some ⟨ver,185,1,emap u32 (zl.take off++D)⟩)∧bV=clk ∧
   D.length=(zl.drop off).length∧cV 4294967296 D∧D.drop (m+3)=(zl.drop off).drop (m+3)∧V 4294967296 (D.take (m+3))=V 4294967296 ((zl.drop off).take (m+3))%V 4294967296 y):=by
 obtain⟨K1,hc⟩:=alB (D:=zl.drop off) (by simp;omega) Js (lz.drop off) ly aa bZ;have l1:=ly.nth (i:=m) aa;have l2:=ly.nth (i:=m+1) aa;have k0:=(lz.drop off).nth (i:=m) (by simp;omega);have k1:=(lz.drop off).nth (i:=m+1) (by simp;omega);have k2:=(lz.drop off).nth (i:=m+2) (by simp;omega);have n0:=gj zl off m;have n1:=gj zl off (m+1);have n2:=gj zl off (m+2);have hDl:(zl.drop off).length=zl.length-off:=av;have hYb:V 4294967296 y<4294967296^(m+2):=by have:=nZ ar ly;rwa [Js]at this
 have hX:V 4294967296 ((zl.drop off).take (m+3))=V 4294967296 ((zl.drop off).take (m+2))+4294967296^(m+2)*nth (zl.drop off) (m+2):=aT (by simp;omega);refine KE (E:=env) (fun _=>0) (t:=4) [(0, .own id ver off (m+3)),(1,us y)] Tryz.func271 rfl bX bX (show 2<=170 by decide) rfl av ?_;apply aR [0,1];apply fj Js [0,1,5];have a1:((m:Int)+2-1)=((m+1:Nat):Int):=aa;have a2:((m:Int)+2-2)=(m:Int):=aa;apply W.sd;simp (disch:=omega) [gw,Js,a1,a2];apply c9 [0,1,5,6,7];rw [n0]at k0 K1;rw [n1]at k1 K1;rw [n2]at k2 K1 hc hX;generalize hxa:nth zl (off+m)=xa at *;generalize hxb:nth zl (off+(m+1))=xb at *;generalize hxc:nth zl (off+(m+2))=xc at *;generalize htt:nth y (m+1)=top at *;generalize Qv:nth y m=nx at *;have ZA:=(yZ (a:=xc*4294967296) (b:=xb) 32 aa k1.1 ⟨xc,by rw [Int.mul_comm];rfl⟩ (au k1.2) aa).1;have htp:¬top=0:=aa;apply W.sd;have a3:((m:Int)+2).toNat=m+2:=aa;simp (disch:=omega) [gw,hr,a1,a3,hxb,hxc,ZA];apply c9 [0,1,5,6,7,8];generalize hXX:V 4294967296 ((zl.drop off).take (m+3))=X at *;generalize hYY:V 4294967296 y=Y at *;have hY0:=K1.Y0;have hX0:0<=X:=by rw [<-hXX];exact bH ar ((lz.drop off).take _)
 have hhd:xc*4294967296+xb<=top*4294967296+4294967296-1:=aa;have hf:=K1.first;have hg0:=Int.ediv_nonneg K1.h0 (show 0<=top by omega);have Qf:=Int.mul_ediv_add_emod (xc*4294967296+xb) top;have oq:=Int.emod_nonneg (xc*4294967296+xb) htp;have tB:=Int.emod_lt_of_pos (xc*4294967296+xb) (show 0<top by omega)
 have hgu:(xc*4294967296+xb)/top<=4294967297:=by
  rcases Int.lt_or_le 4294967297 ((xc*4294967296+xb)/top)with h | h
  ·exfalso;have:=Int.mul_le_mul_of_nonneg_left (show 4294967298<=(xc*4294967296+xb)/top by omega) (show 0<=top by omega);omega
  ·exact h
 rw [Int.mul_comm]at Qf;have hh0:=K1.h0;generalize hhe:xc*4294967296+xb=head at *;have hwq:IntKind.u64.wrap (head/top)=head/top:=wrap_u64 hg0 aa;apply oD htp hwq [0,1,5,6,7,8,9];apply fj htp [0,1,5,6,7,9,10]
 refine W.dh (fun σ=>∃(g:Int),σ=⟨fa [(0, .own id ver off (m+3)),(1,us y),(5,ae ((m:Int)+2)),(9, .int .u64 g)],rows,clk⟩∧0<=g∧g<4294967296∧X<(g+1)*Y∧g*Y<X+Y) ?_ ?_
 ·
  refine W.aO (fun k σ=>∃(g r:Int),σ=⟨fa [(0, .own id ver off (m+3)),(1,us y),(5,ae ((m:Int)+2)),(6, .int .u64 top),(7, .int .u64 nx),(9, .int .u64 g),(10, .int .u64 r)],rows,clk⟩∧k=g.toNat∧0<=g∧g<=4294967297∧0<=r∧r<4294967296∧g*top+r=head∧X<(g+1)*Y) (head/top).toNat ?_ ?_
  ·exact⟨_, .refl,head/top,head%top,rfl,rfl,hg0,hgu,oq,aa,Qf,hf⟩
  rintro k _ ⟨g,r,rfl,hk,q1,q2,q3,q4,q5,q6⟩;apply W.seq;have asf:0<=g*nx:=Int.mul_nonneg q1 l1.1
  refine W.dx (fun σ=>∃(b:Bool),σ=⟨fa [(0, .own id ver off (m+3)),(1,us y),(5,ae ((m:Int)+2)),(6, .int .u64 top),(7, .int .u64 nx),(9, .int .u64 g),(10, .int .u64 r),(71, .bool b)],rows,clk⟩∧(b=true↔4294967296<=g∨r*4294967296+xa<g*nx)) (fun K hK=>?_) ?_
  ·by_cases hb:4294967296<=g
   ·apply dB hb;exact hK _ _ (ak _ [0,1,5,6,7,9,10,71]) ⟨_,rfl,by simp [hb]⟩
   ·have ax5:g*nx<=4294967295*4294967295:=Int.mul_le_mul aa aa l1.1 aa;have hwr:IntKind.u64.wrap (g*nx)=g*nx:=wrap_u64 asf aa;have asg:=(yZ (a:=r*4294967296) (b:=xa) 32 aa k0.1 ⟨r,by rw [Int.mul_comm];rfl⟩ (au k0.2) aa).1;simp (disch:=omega) [gw,hb,hwr,hr,a2,hxa,asg];exact hK _ _ (ak _ [0,1,5,6,7,9,10,71]) ⟨_,rfl,by simp [hb]⟩
  rintro _ ⟨b,rfl,hb⟩
  apply (dI)<;>intro h
  ·have h:=hb.1 h
   have Zu:X<g*Y:=by
    rcases h with h | h
    ·exact K1.big h
    ·exact K1.over q1 q5 h
   have hgp:1<=g:=by
    rcases Int.lt_or_le g 1 with h3 | h3
    ·exfalso;have:g=0:=aa;rw [this,Int.zero_mul]at Zu;omega
    ·exact h3
   have e5:(g-1)*top+(r+top)=head:=(by rw [Int.sub_mul];omega);have e6:X<(g-1+1)*Y:=(by rw [Int.sub_add_cancel];exact Zu);apply (qj);apply eQ [0,1,5,6,7,9,10] [0,1,5,6,7,9,10]
   apply fi [0,1,5,6,7,9,10,78]<;>intro h
   ·have h:4294967296<=r+top:=(by simp at h;omega);have Gk:=K1.T7 hhd e5 h;have hnr:=K1.o7 aa Gk e5 (K1.alz aa Gk h);apply (ey);exact⟨_,ak _ [0,1,5,9],g-1,rfl,aa,Gk,e6,hnr⟩
   ·have h:r+top<4294967296:=(by simp at h;omega);apply W.skip;exact⟨(g-1).toNat,_,ak _ [0,1,5,6,7,9,10],aa,g-1,r+top,rfl,rfl,aa,aa,aa,h,e5,e6⟩
  ·have h:¬(4294967296<=g∨r*4294967296+xa<g*nx):=fun h2=>by rw [hb.2 h2]at h;cases h
   have hnr:=K1.o7 q1 aa q5 aa;apply (ey);exact⟨_,ak _ [0,1,5,9],g,rfl,q1,aa,q6,hnr⟩
 rintro _ ⟨g,rfl,g0,g1,hgX,hgY⟩;clear hf hg0 Qf oq tB hgu ZA;apply fB [0,1,5,9,11,12];apply fj Js [0,1,5,9,11,12,79,80,81];apply W.block
 refine W.aO (fun q σ=>∃(i:Nat) (c β:Int) (z:List Int) (rG:Pm.Rows),σ=⟨fa [(0, .own id ver off (m+3)),(1,us y),(5,ae ((m:Int)+2)),(9, .int .u64 g),(11, .int .u64 c),(12, .int .u64 β),(79,us y),(80,ae ((m:Int)+2)),(81,ae i)],rG,clk⟩ ∧
  rG id=some ⟨ver,185,1,emap u32 z⟩∧(∀j,j≠id->rG j=rows j)∧q=m+2-i∧i<=m+2∧z.length=zl.length∧cV 4294967296 z∧z.take off=zl.take off∧(z.drop off).drop i=(zl.drop off).drop i∧0<=c∧c<4294967296∧(β=0∨β=1) ∧
  V 4294967296 ((z.drop off).take i)+g*V 4294967296 (y.take i)=V 4294967296 ((zl.drop off).take i)+(c+β)*4294967296^i) (m+2) ?_ ?_
 ·exact⟨_,Gh.fr [(0, .own id ver off (m+3)),(1,us y),(5,ae ((m:Int)+2)),(9, .int .u64 g),(11, .int .u64 0),(12, .int .u64 0),(79,us y),(80,ae ((m:Int)+2)),(81,ae (0:Nat))] av,0,0,0,zl,rows,rfl,hr,fun _ _=>rfl,aa,aa,rfl,lz,rfl,rfl,aa,aa, .inl rfl,by simp [V]⟩
 rintro q _ ⟨i,c,β,z,rG,rfl,bE,hro,hq,hi,amD,lz2,hP,hD,c0,c1,hβ,hV⟩
 apply ef [0,1,5,9,11,12,79,80,81,82]<;>intro h
 ·have hi:i<m+2:=by simp at h;omega
  have hw:=ly.nth (i:=i) aa;have hVy:=aT (b:=4294967296) (l:=y) (i:=i) aa;have hVx:=aT (b:=4294967296) (l:=zl.drop off) (i:=i) aa;have ZD:nth z (off+i)=nth (zl.drop off) i:=by rw [<-gj];have:=congrArg (fun l=>nth l 0) hD;simpa [gj]using this
  have hx:=(lz.drop off).nth (i:=i) aa;generalize nth (zl.drop off) i=x at *;generalize hwe:nth y i=w at *;obtain⟨s1,s2,β',qK,s3,s4⟩:=T9 ⟨g0,g1⟩ hw ⟨c0,c1⟩ hx hβ;apply (ft);apply oD Js hwe [0,1,5,9,11,12,13,14,79,80,81];have Zv:IntKind.u64.wrap (g*w)=g*w:=wrap_u64 (Int.mul_nonneg g0 hw.1) aa;have Gq:IntKind.u64.wrap (g*w+c)=g*w+c:=wrap_u64 s1.1 aa;apply oD Zv Gq [0,1,5,9,12,13,15,79,80,81];apply aR [0,1,5,9,11,12,13,15,79,80,81];have hp3:IntKind.u32.wrap (g*w+c)=(g*w+c)%4294967296:=wrap_u32';have hp4:IntKind.u64.wrap (IntKind.u64.wrap (x-(g*w+c)%4294967296)-β)=(x-(g*w+c)%4294967296-β)%18446744073709551616:=by rw [jw,jw];omega
  apply W.sr;apply EV bE ZD hp3 hp4;apply c9 [0,1,5,9,11,13,16,79,80,81];have hs3:=s3;have hs4:=s4;generalize hss:(x-(g*w+c)%4294967296-β)%18446744073709551616=s at *;have hp5:IntKind.u32.wrap s=s%4294967296:=wrap_u32';have NF:off+i<z.length:=aa;refine W.wI fun K hK=>?_;simp (disch:=omega) [gw,bE,hp5,s3,NF];refine W.lw [0,1,5,9,11,12,79,80,81] hK ?_;clear hK K;simp;refine bB fun K hK=>?_
  refine hK _ ⟨m+2-(i+1),_,ak _ [0,1,5,9,11,12,79,80,81],aa,i+1,(g*w+c)/4294967296,β',z.set (off+i) (s%4294967296),_,rfl,av,fun j hj=>by simp [hj,hro j hj],aa,aa,by simp [amD],lz2.set ⟨aa,aa⟩,by rw [gD aa,hP],?_,s2.1,s2.2,qK,?_⟩
  ·rw [mj,drop_set_of_lt aa];have:=congrArg (List.drop 1) hD;rw [drop_drop,drop_drop,drop_drop,drop_drop]at this;rw [drop_drop,drop_drop];exact this
  ·rw [mj,fw (by simp;omega),hVy,hVx,s4,Int.pow_succ];have h10:=Int.mul_ediv_add_emod (g*w+c) 4294967296;generalize (g*w+c)/4294967296=pq,(g*w+c)%4294967296=pr,(4294967296:Int)^i=bi at *;have e7:g*(V 4294967296 (y.take i)+bi*w)=g*V 4294967296 (y.take i)+bi*(g*w):=aG;rw [e7];have e8:g*w=4294967296*pq+pr-c:=aa;rw [e8];have e9:V 4294967296 ((z.drop off).take i)=V 4294967296 ((zl.drop off).take i)+(c+β)*bi-g*V 4294967296 (y.take i):=aa;rw [e9];grind
 ·have hi:i=m+2:=by simp at h;omega
  subst hi;rw [take_of_length_le (show y.length<=m+2 by omega),hYY]at hV;have ZD:nth z (off+(m+2))=xc:=by rw [<-n2,<-gj];have:=congrArg (fun l=>nth l 0) hD;simpa [gj]using this
  have hV0:=bH (b:=4294967296) ar ((lz2.drop off).take (m+2));have hV1:=nZ (b:=4294967296) ar ((lz2.drop off).take (m+2));rw [length_take,Nat.min_eq_left (by simp;omega)]at hV1;have hXg:X-g*Y=V 4294967296 ((z.drop off).take (m+2))+4294967296^(m+2)*(xc-c-β):=by rw [hX];have:(c+β)*4294967296^(m+2)=4294967296^(m+2)*c+4294967296^(m+2)*β:=aG;rw [Int.mul_sub,Int.mul_sub];omega
  have NF:off+(m+2)<z.length:=aa;generalize hbn:(4294967296:Int)^(m+2)=bn at *;have hp4:IntKind.u64.wrap (IntKind.u64.wrap (xc-c)-β)=(xc-c-β)%18446744073709551616:=by rw [jw,jw];omega
  apply (iq);simp (disch:=omega) [gw,bE,a3,ZD,hp4];apply c9 [0,1,5,9,17];generalize hss:(xc-c-β)%18446744073709551616=s at *;have hp5:IntKind.u32.wrap s=s%4294967296:=wrap_u32';apply W.sr;simp (disch:=omega) [gw,bE,a3,hp5,NF];apply c9 [0,1,5,9,17];have ZE:(z.set (off+(m+2)) (s%4294967296)).drop off=(z.drop off).set (m+2) (s%4294967296):=mj _ _ _ _;have agf:(z.set (off+(m+2)) (s%4294967296)).take off=zl.take off:=by rw [gD aa,hP]
  have ZF:((z.drop off).set (m+2) (s%4294967296)).drop (m+3)=(zl.drop off).drop (m+3):=by rw [drop_set_of_lt aa];have:=congrArg (List.drop 1) hD;rw [drop_drop,drop_drop,drop_drop,drop_drop]at this;rw [drop_drop,drop_drop];exact this
  have uJ:cV 4294967296 ((z.drop off).set (m+2) (s%4294967296)):=(lz2.drop off).set ⟨aa,aa⟩;apply W.seq
  rcases Int.lt_or_le (xc-c-β) 0 with UR | jO
  ·-- one too many
   have ZG:s/9223372036854775808=1:=aa;apply fj ZG [0,1,5,9,129]
   apply (dI)<;>intro h
   ·cases h
   apply W.skip
   have asj:bn*(xc-c-β) = - bn:=by
    rcases Int.lt_or_le (xc-c-β) (-1)with h | h
    ·exfalso;have:=Int.mul_le_mul_of_nonneg_left (show xc-c-β <= -2 by omega) (show 0<=bn by omega);omega
    ·have:xc-c-β = -1:=(by omega);rw [this];omega
   have hsv:s%4294967296=4294967295:=by
    rcases Int.lt_or_le (xc-c-β) (-1)with h | h
    ·exfalso;have:=Int.mul_le_mul_of_nonneg_left (show xc-c-β <= -2 by omega) (show 0<=bn by omega);omega
    ·omega
   rw [asj]at hXg;obtain⟨Ux,XL⟩:=K1.alA hgY aa;have hgp:0<=g-1:=(by rw [Ux];exact Int.ediv_nonneg hX0 aa);rw [hsv]at ZE agf ZF uJ |-;have amH:((z.drop off).set (m+2) 4294967295).take (m+2)=(z.drop off).take (m+2):=gD (Nat.le_refl _);rw [<-amH]at hXg hV0 hV1;have amI:nth ((z.drop off).set (m+2) 4294967295) (m+2)=4294967295:=fe (by simp;omega);generalize n6:z.set (off+(m+2)) 4294967295=z2 at *;have asl:z2.length=zl.length:=(by rw [<-n6];simp [amD]);rw [<-ZE]at hXg hV0 hV1 amI uJ ZF;have lz3:cV 4294967296 z2:=(by rw [<-n6];exact lz2.set ⟨aa,aa⟩);clear hss hp5 hp4 ZG ZE amH hV ZD hD hP uJ lz2;apply fB [0,1,5,9,18];apply fj Js [0,5,9,18,132,133,134];apply W.block
   refine W.aO (fun q σ=>∃(i:Nat) (k:Int) (z:List Int) (rG:Pm.Rows),σ=⟨fa [(0, .own id ver off (m+3)),(5,ae ((m:Int)+2)),(9, .int .u64 g),(18, .int .u64 k),(132,us y),(133,ae ((m:Int)+2)),(134,ae i)],rG,clk⟩ ∧
    rG id=some ⟨ver,185,1,emap u32 z⟩∧(∀j,j≠id->rG j=rows j)∧q=m+2-i∧i<=m+2∧z.length=zl.length∧cV 4294967296 z∧z.take off=zl.take off∧(z.drop off).drop i=(z2.drop off).drop i∧(k=0∨k=1) ∧
    V 4294967296 ((z.drop off).take i)+k*4294967296^i=V 4294967296 ((z2.drop off).take i)+V 4294967296 (y.take i)) (m+2) ?_ ?_
   ·exact⟨_,Gh.fr [(0, .own id ver off (m+3)),(5,ae ((m:Int)+2)),(9, .int .u64 g),(18, .int .u64 0),(132,us y),(133,ae ((m:Int)+2)),(134,ae (0:Nat))] av,0,0,z2,_,rfl,av,fun j hj=>by simp [hj,hro j hj],aa,aa,asl,lz3,agf,rfl, .inl rfl,by simp [V]⟩
   rintro q _ ⟨i,k,z,avK,rfl,bA,amJ,hq,hi,asm,lz4,hP,hD,hk,hV⟩
   apply ef [0,5,9,18,132,133,134,135]<;>intro h
   ·have hi:i<m+2:=(by simp at h;omega);have hw:=ly.nth (i:=i) aa;have hVy:=aT (b:=4294967296) (l:=y) (i:=i) aa;have hVx:=aT (b:=4294967296) (l:=z2.drop off) (i:=i) (by simp;omega);have ZD:nth z (off+i)=nth (z2.drop off) i:=(by rw [<-gj];have:=congrArg (fun l=>nth l 0) hD;simpa [gj]using this);have hx:=(lz3.drop off).nth (i:=i) (by simp;omega);generalize nth (z2.drop off) i=x at *;generalize hwe:nth y i=w at *;apply (ft);apply oD Js hwe [0,5,9,18,19,20,132,133,134];apply oD bA ZD [0,5,9,19,21,132,133,134];have hp6:IntKind.u32.wrap (x+w+k)=(x+w+k)%4294967296:=wrap_u32';have asn:off+i<z.length:=aa;refine W.wI fun K hK=>?_;apply qk bA hp6 asn;refine W.lw [0,5,9,18,132,133,134] hK ?_;clear hK K;simp;refine bB fun K hK=>?_
    refine hK _ ⟨m+2-(i+1),_,ak _ [0,5,9,18,132,133,134],aa,i+1,(x+w+k)/4294967296,z.set (off+i) ((x+w+k)%4294967296),_,rfl,av,fun j hj=>by simp [hj,amJ j hj],aa,aa,by simp [asm],lz4.set ⟨aa,aa⟩,by rw [gD aa,hP],?_,aa,?_⟩
    ·rw [mj,drop_set_of_lt aa];have:=congrArg (List.drop 1) hD;rw [drop_drop,drop_drop,drop_drop,drop_drop]at this;rw [drop_drop,drop_drop];exact this
    ·rw [mj,fw (by simp;omega),hVy,hVx,Int.pow_succ];have h10:=Int.mul_ediv_add_emod (x+w+k) 4294967296;generalize (x+w+k)/4294967296=pq,(x+w+k)%4294967296=pr,(4294967296:Int)^i=bi at *;have e8:pr=x+w+k-4294967296*pq:=aa;rw [e8];have e9:V 4294967296 ((z.drop off).take i)=V 4294967296 ((z2.drop off).take i)+V 4294967296 (y.take i)-k*bi:=aa;rw [e9];grind
   ·have hi:i=m+2:=(by simp at h;omega);subst hi;rw [take_of_length_le (show y.length<=m+2 by omega),hYY,hbn]at hV;have ZD:nth z (off+(m+2))=4294967295:=(by rw [<-amI,<-gj];have:=congrArg (fun l=>nth l 0) hD;simpa [gj]using this);have KH:=bH (b:=4294967296) ar ((lz4.drop off).take (m+2));have hV3:=nZ (b:=4294967296) ar ((lz4.drop off).take (m+2));rw [length_take,Nat.min_eq_left (by simp;omega),hbn]at hV3
    have XK:k=1:=by
     rcases hk with rfl | rfl
     ·exfalso;omega
     ·rfl
    subst XK;have aso:off+(m+2)<z.length:=aa;have hwc:IntKind.u32.wrap 4294967296=0:=rfl;have hwg:IntKind.u32.wrap g=g:=wrap_u32 g0 g1;apply (iq);simp (disch:=omega) [gw,bA,a3,ZD,aso,hwc];apply c9 [9];apply fj hwg [4];apply W.ret
    refine⟨(z.drop off).set (m+2) 0,by simp [Ux],?_,rfl,by simp;omega,(lz4.drop off).set ⟨aa,aa⟩,?_,?_⟩
    ·have hzz:z.set (off+(m+2)) 0=zl.take off++(z.drop off).set (m+2) 0:=(by rw [<-mj,<-hP,<-gD (l:=z) (i:=off+(m+2)) (x:=0) (show off<=off+(m+2)by omega),take_append_drop]);rw [hzz];funext j
     by_cases hj:j=id
     ·subst hj;simp
     ·simp [hj,amJ j hj,dH]
    ·rw [drop_set_of_lt aa,<-ZF];have:=congrArg (List.drop 1) hD;rw [drop_drop,drop_drop,drop_drop,drop_drop]at this;rw [drop_drop,drop_drop];exact this
    ·rw [show m+3=(m+2)+1 from rfl,fw (by simp;omega),hbn,<-XL];omega
  ·have ZG:s/9223372036854775808=0:=(by omega);have asq:0<=X-g*Y:=(by rw [hXg];have:=Int.mul_nonneg (show 0<=bn by omega) jO;omega);obtain⟨Ux,XL⟩:=K1.right hgX asq;apply fj ZG [0,1,5,9,129]
   apply (dI)<;>intro h
   ·have hwg:IntKind.u32.wrap g=g:=wrap_u32 g0 g1;apply fj hwg [4];apply W.ret
    refine⟨(z.drop off).set (m+2) (s%4294967296),by simp [Ux],?_,rfl,by simp;omega,uJ,ZF,?_⟩
    ·have hzz:z.set (off+(m+2)) (s%4294967296)=zl.take off++(z.drop off).set (m+2) (s%4294967296):=(by rw [<-agf,<-ZE,take_append_drop]);rw [hzz];funext j
     by_cases hj:j=id
     ·subst hj;simp
     ·simp [hj,hro j hj,dH]
    ·rw [show m+3=(m+2)+1 from rfl,fw (by simp;omega),hbn,<-XL,hXg];have:s%4294967296=xc-c-β:=aa;rw [this]
   ·cases h
theorem US{t:Int}(h0:0<t)(h1:t<4294967296):∃s:Nat,s<=31∧(32:Int)-nb t.toNat=s∧2147483648<=t*2^s∧(t+1)*2^s<=4294967296:=by
 have h2:nb t.toNat<=32:=nC.2 aa
 have h3:1<=nb t.toNat:=by
  rcases Nat.eq_zero_or_pos (nb t.toNat)with h | h
  ·have:=nC.1 (Nat.le_of_eq h);omega
  ·exact h
 obtain⟨k,hk⟩:∃k,nb t.toNat=k+1:=⟨nb t.toNat-1,aa⟩
 have h4:t.toNat<2^(k+1):=nC.1 (Nat.le_of_eq hk)
 have h5:2^k<=t.toNat:=by
  rcases Nat.lt_or_ge t.toNat (2^k)with h | h
  ·have:=nC.2 h;omega
  ·exact h
 have e1:(2:Int)^(k+1)*2^(31-k)=4294967296:=by rw [<-Int.pow_add,show k+1+(31-k)=32 by omega];rfl
 have e2:(2:Int)^k*2^(31-k)=2147483648:=by rw [<-Int.pow_add,show k+(31-k)=31 by omega];rfl
 have hp:(0:Int)<2^(31-k):=Int.pow_pos ar;have q1:((2^k:Nat):Int)=(2:Int)^k:=Int.natCast_pow 2 k;have q2:((2^(k+1):Nat):Int)=(2:Int)^(k+1):=Int.natCast_pow 2 (k+1)
 refine⟨31-k,aa,aa,?_,?_⟩
 ·have:=Int.mul_le_mul_of_nonneg_right (show (2:Int)^k<=t by omega) (Int.le_of_lt hp);omega
 ·have:=Int.mul_le_mul_of_nonneg_right (show t+1<=(2:Int)^(k+1)by omega) (Int.le_of_lt hp);omega
theorem QO(hc:aK y=y)(h:y ≠ []):nth y (y.length-1)≠0:=by
 intro h0;have hl:0<y.length:=length_pos_iff.2 h;have e:y=y.take (y.length-1) ++ [0]:=by have:=bt (l:=y) (i:=y.length-1) aa;rw [h0,show y.length-1+1=y.length by omega,take_length]at this;exact this
 have h1:=jy (y.take (y.length-1));rw [<-e,hc]at h1;have h2:=bS (y.take (y.length-1));rw [<-h1,length_take]at h2;omega
theorem UT:N 0=us []:=rfl
theorem UU{m:Nat}{X D:List Int}{Y:Int}(lX:cV 4294967296 X)(lD:cV 4294967296 D)(hYb:Y<4294967296^(m+2))(hY0:0<Y)(tZ:i+m+3<=X.length)(hDl:D.length=(X.drop i).length)(hDd:D.drop (m+3)=(X.drop i).drop (m+3))
  (hg:g=V 4294967296 ((X.drop i).take (m+3))/Y) (hDv:V 4294967296 (D.take (m+3))=V 4294967296 ((X.drop i).take (m+3))%Y) (bZ:V 4294967296 (X.drop (i+1))<Y) :
  V 4294967296 ((X.take i++D).drop i)<Y∧V 4294967296 (X.take i++D)=V 4294967296 X-4294967296^i*(g*Y):=by
 have hl:(X.take i).length=i:=by simp;omega
 have e1:(X.take i++D).drop i=D:=by rw [drop_append,hl,drop_of_length_le aa];simp
 have hD3:=jU (b:=4294967296) D (m+3) (by rw [hDl];simp;omega);have hX3:=jU (b:=4294967296) (X.drop i) (m+3) (by simp;omega);have hXi:=jU (b:=4294967296) X i aa
 have hz:V 4294967296 ((X.drop i).drop (m+3))=0:=by
  have h1:=jU (b:=4294967296) (X.drop (i+1)) (m+2) (by simp;omega);have h2:(X.drop (i+1)).drop (m+2)=(X.drop i).drop (m+3):=by rw [drop_drop,drop_drop];congr 1;omega
  have h3:=bH (b:=4294967296) ar ((lX.drop (i+1)).take (m+2));have h4:=bH (b:=4294967296) ar ((lX.drop i).drop (m+3));rw [h2]at h1
  rcases Int.lt_or_le 0 (V 4294967296 ((X.drop i).drop (m+3)))with h5 | h5
  ·exfalso;have:=Int.mul_le_mul_of_nonneg_left (show 1<=V 4294967296 ((X.drop i).drop (m+3))by omega) (show 0<=(4294967296:Int)^(m+2)by omega);omega
  ·omega
 rw [hDd,hz,Int.mul_zero,Int.add_zero]at hD3;rw [hz,Int.mul_zero,Int.add_zero]at hX3;have hm:=Int.emod_lt_of_pos (V 4294967296 ((X.drop i).take (m+3))) hY0;have Qf:=Int.mul_ediv_add_emod (V 4294967296 ((X.drop i).take (m+3))) Y;rw [<-hg,<-hDv,<-hX3,<-hD3]at Qf;refine⟨by rw [e1,hD3,hDv];exact hm,?_⟩;rw [dK,hl,hXi,<-Qf];grind
theorem HS(a b:List Int)(ha:rB a)(hb:rB b)(h0:V 4294967296 b=0):aj 259 [us a,us b] (.cW [us [],us [],ae 2]):=by
 have hlb:=hb.len;have KJ:=ha.len;have hcb:=bS b;have hy:aK b = []:=by rw [rj fV hb.xd];show aI LL (V 4294967296 b).toNat = [];rw [h0];rfl
 apply bL [(0,us a),(1,us b)] Tryz.func259;apply aR [0,1];apply (oC);refine aU (dy a aa) ?_;apply (cp);refine aU (dy b aa) ?_;apply bM [0,1];rw [hy];apply (iR)
 apply fi [0,1,18]<;>intro h
 ·apply aR [4,5,6];apply W.ret;simp [go];rfl
 ·cases h
theorem Bj(a b:List Int)(ha:rB a)(hb:rB b)(h0:V 4294967296 b≠0)(KJ:a.length<1099511627774)(hlb:b.length<1099511627774) :
  aj 259 [us a,us b] (.cW [N (V 4294967296 a/V 4294967296 b),N (V 4294967296 a%V 4294967296 b),ae 0]):=by
 have hca:=bS a;have hcb:=bS b;have hVa:=c8 (b:=4294967296) a;have hVb:=c8 (b:=4294967296) b;have lx:=eh ha.xd;have ly:=eh hb.xd;have cx:=eD a;have cy:=eD b;rw [<-hVa,<-hVb];rw [<-hVb]at h0;apply bL [(0,us a),(1,us b)] Tryz.func259;apply aR [0,1];apply (oC);refine aU (dy a aa) ?_;apply (cp);refine aU (dy b aa) ?_;apply bM [0,1];have hxl:(aK a).length<1099511627774:=aa;have Js:(aK b).length<1099511627774:=aa;clear hVa hVb hca hcb;generalize aK a=x,aK b=y at *;have hyn:y ≠ []:=fun h=>h0 (by rw [h];rfl);have hyp:0<y.length:=length_pos_iff.2 hyn;have hY0:0<V 4294967296 y:=by have:=bH (b:=4294967296) ar ly;omega
 have hX0:=bH (b:=4294967296) ar lx;apply (iR)
 apply fi [0,1,18]<;>intro h
 ·exfalso;simp at h;exact hyn h
 clear h
 apply fi [0,1,22]<;>intro h
 ·have h:x.length<y.length:=by simp at h;omega
  have pR:=jA (b:=4294967296) ar lx ly cy h;rw [Int.ediv_eq_zero_of_lt hX0 pR,Int.emod_eq_of_lt hX0 pR];apply (oC);refine aU (mC x aa lx) ?_;apply bM [4,5,6];apply W.ret;simp [go];rfl
 have pR:y.length<=x.length:=by simp at h;omega
 clear h
 apply fi [0,1,30]<;>intro h
 ·have h:y.length=1:=by simp at h;omega
  obtain⟨w,rfl⟩:∃w,y = [w]:=match y,h with | [w],_=>⟨w,rfl⟩
  have hw:=(cV.cons.1 ly).1;have hV1:V 4294967296 [w]=w:=nv;rw [hV1]at h0 hY0 |-;have Jm:=Int.emod_nonneg (V 4294967296 x) h0;have Gp:=Int.emod_lt_of_pos (V 4294967296 x) hY0;have i3:=ZB x w aa lx hY0 hw.2;have lr:cV 4294967296 [V 4294967296 x%w]:=cV.cons.2 ⟨⟨Jm,aa⟩,cV.nil⟩;have nj:=dy [V 4294967296 x%w] av;rw [vA lr,nv]at nj;have hnw:nth [w] 0=w:=rfl;generalize V 4294967296 x/w=qq,V 4294967296 x%w=rr at *;apply lF hnw i3;apply bM [7,8];exact yN nj [4,5,6]
 have qB:2<=y.length:=by simp at h;omega
 clear h;obtain⟨m,hm⟩:∃m,y.length=m+2:=⟨y.length-2,aa⟩
 have htn:=QO cy hyn;rw [show y.length-1=m+1 by omega]at htn;have Yp:=ly.nth (i:=m+1) aa;obtain⟨s,ZH,hsn,ni,Gu⟩:=US (t:=nth y (m+1)) aa Yp.2;have hLZ:=agd (nth y (m+1)) Yp.1 Yp.2;rw [hsn]at hLZ;have hp:(0:Int)<2^s:=Int.pow_pos ar;have amM:(2:Int)^s<=2147483648:=by have:=Int.ofNat_le.2 (Nat.pow_le_pow_right (show 0<2 by decide) ZH);simpa using this
 have hbm:(0:Int)<4294967296^(m+1):=Int.pow_pos ar;have agh:=nZ (b:=4294967296) ar lx;have hVy:=jU (b:=4294967296) y (m+1) aa;have hy1:V 4294967296 (y.drop (m+1))=nth y (m+1):=by rw [fu aa,drop_of_length_le aa,nv]
 rw [hy1]at hVy;have asy:=bH (b:=4294967296) ar (ly.take (m+1));have hy3:=nZ (b:=4294967296) ar (ly.take (m+1));rw [length_take,Nat.min_eq_left aa]at hy3
 have hyU:V 4294967296 y*2^s<4294967296^(m+2):=by
  have h1:V 4294967296 y<(nth y (m+1)+1)*4294967296^(m+1):=by rw [hVy];grind
  have h2:=Int.mul_lt_mul_of_pos_right h1 hp;have h3:=Int.mul_le_mul_of_nonneg_right Gu (Int.le_of_lt hbm);have e:(nth y (m+1)+1)*4294967296^(m+1)*2^s=(nth y (m+1)+1)*2^s*4294967296^(m+1):=aG;rw [show m+2=(m+1)+1 from rfl,Int.pow_succ];omega
 have hyL:2147483648*4294967296^(m+1)<=V 4294967296 y*2^s:=by
  have h1:nth y (m+1)*4294967296^(m+1)<=V 4294967296 y:=by rw [hVy,Int.mul_comm];omega
  have h2:=Int.mul_le_mul_of_nonneg_right h1 (Int.le_of_lt hp);have h3:=Int.mul_le_mul_of_nonneg_right ni (Int.le_of_lt hbm);have e:nth y (m+1)*4294967296^(m+1)*2^s=nth y (m+1)*2^s*4294967296^(m+1):=aG;omega
 have hxU:V 4294967296 x*2^s<4294967296^(x.length+1):=by rw [Int.pow_succ];exact Int.lt_of_lt_of_le (Int.mul_lt_mul_of_pos_right agh hp) (Int.mul_le_mul_of_nonneg_left aa (Int.le_of_lt (Int.pow_pos ar)))
 obtain⟨x',hwx,ayd,lx',agi⟩:=HR x s (x.length+1) ZH aa lx aa aa hxU;obtain⟨y',hwy,amN,ly',QP⟩:=HR y s (m+2) ZH aa ly aa aa hyU
 have asA:2147483648<=nth y' (m+1):=by
  have h1:=jU (b:=4294967296) y' (m+1) aa;have h2:V 4294967296 (y'.drop (m+1))=nth y' (m+1):=by rw [fu aa,drop_of_length_le aa,nv]
  have h3:=nZ (b:=4294967296) ar (ly'.take (m+1));rw [length_take,Nat.min_eq_left aa]at h3;rw [h2,QP]at h1
  rcases Int.lt_or_le (nth y' (m+1)) 2147483648 with h4 | h4
  ·exfalso;have:=Int.mul_le_mul_of_nonneg_left (show nth y' (m+1)+1<=2147483648 by omega) (Int.le_of_lt hbm);rw [Int.mul_add,Int.mul_comm _ 2147483648]at this;omega
  ·exact h4
 have ZI:0<V 4294967296 y':=by rw [QP];exact Int.mul_pos hY0 hp
 have asB:V 4294967296 y'<4294967296^(m+2):=by rw [QP];exact hyU
 have hxm:m+2<=x.length:=aa;have hqx:V 4294967296 x/V 4294967296 y=V 4294967296 x'/V 4294967296 y':=by rw [agi,QP,Int.mul_ediv_mul_of_pos_left _ _ hp]
 have hrx:V 4294967296 x%V 4294967296 y=V 4294967296 x'%V 4294967296 y'/2^s:=by rw [agi,QP];have e1:=Int.emod_def (V 4294967296 x*2^s) (V 4294967296 y*2^s);rw [Int.mul_ediv_mul_of_pos_left _ _ hp]at e1;have e2:=Int.emod_def (V 4294967296 x) (V 4294967296 y);rw [e1,e2];have e3:V 4294967296 x*2^s-V 4294967296 y*2^s*(V 4294967296 x/V 4294967296 y)=(V 4294967296 x-V 4294967296 y*(V 4294967296 x/V 4294967296 y))*2^s:=aG;rw [e3,Int.mul_ediv_cancel _ aa]
 have amO:V 4294967296 (x'.drop (x.length-m-1))<V 4294967296 y':=by
  have h1:=jU (b:=4294967296) x' (x.length-m-1) aa;have h2:=bH (b:=4294967296) ar (lx'.take (x.length-m-1));rw [agi]at h1;have h3:V 4294967296 x*2^s<4294967296^(x.length-m-1)*(4294967296^(m+1)*2^s):=by rw [<-Int.mul_assoc,<-Int.pow_add,show x.length-m-1+(m+1)=x.length by omega];exact Int.mul_lt_mul_of_pos_right agh hp
  have h4:V 4294967296 (x'.drop (x.length-m-1))<4294967296^(m+1)*2^s:=Int.lt_of_mul_lt_mul_left (a:=4294967296^(x.length-m-1)) aa (Int.le_of_lt (Int.pow_pos ar));have h5:=Int.mul_le_mul_of_nonneg_left amM (Int.le_of_lt hbm);rw [QP];rw [Int.mul_comm _ 2147483648]at h5;omega
 rw [hqx,hrx];apply W.skip;have a1:((m:Int)+2-1)=((m+1:Nat):Int):=aa;apply W.sr;simp (disch:=omega) [gw,hm,a1];apply cT hLZ;apply bM [0,1,9]
 replace hwx:gS env.P 270 [us x,ae s,ae ((x.length:Int)+1)] 185 1 (emap u32 x'):=hwx
 replace hwy:gS env.P 270 [us y,ae s,ae ((m:Int)+2)] 185 1 (emap u32 y'):=hwy
 apply W.sr;apply dB hm;refine acp hwx 58 av av av ?_;apply dB hm;refine acp hwy 63 av av av ?_;apply bM [0,9,10,11];refine W.freeze 63 av fun K hK=>?_;simp;refine hK _ ?_;clear hK K;apply W.sr;simp (disch:=omega) [gw,amN];apply c9 [0,9,10,11,12];obtain⟨ql,QQ⟩:∃ql,x.length=ql+m+1:=⟨x.length-m-1,aa⟩
 rw [show x.length-m-1=ql by omega]at amO;have acU:x'.length=ql+m+2:=aa;have aq:(x.length:Int)-((m:Int)+2)+1=(ql:Int):=aa;apply W.sr;simp (disch:=omega) [gw,aq];apply c9 [4,9,10,11,12];clear hwx hwy hVy hy1 asy hy3 hyU hyL hxU hqx hrx htn Yp ni Gu hsn hLZ agh hY0 hX0;apply dU [4,9,10,11,12,13]
 refine W.aO (fun q σ=>∃(v4:Nat) (X Q:List Int),aQ σ [(4, .own 71 v4 0 ql),(9,ae s),(10, .own 58 0 0 (ql+m+2)),(11,us y'),(12,ae ((m:Int)+2)),(13,ae ((q:Int)-1))] fun rows clk =>
  rows 58=some ⟨0,185,1,emap u32 X⟩∧rows 71=some ⟨v4,185,1,emap u32 Q⟩∧q<=ql∧X.length=ql+m+2∧Q.length=ql∧cV 4294967296 X∧cV 4294967296 Q ∧
  V 4294967296 X+4294967296^q*V 4294967296 (Q.drop q)*V 4294967296 y'=V 4294967296 x'∧V 4294967296 (X.drop q)<V 4294967296 y') ql ?_ ?_
 ·exact⟨_,Gh.fr [(4, .own 71 _ 0 ql),(9,ae s),(10, .own 58 0 0 (ql+m+2)),(11,us y'),(12,ae ((m:Int)+2)),(13,ae ((ql:Int)-1))] (by simp [acU];exact rfl),_,x',replicate ql 0,_,_,rfl,av,av,aa,acU,av,lx',cV.rep ar _,by simp [V],amO⟩
 rintro q _ ⟨v4,X,Q,rows,clk,rfl,ZJ,agj,hq,hXl,ZK,lX,lQ,hVX,hXU⟩
 apply cS [4,9,10,11,12,13,76]<;>intro h
 ·have Jq:0<q:=by simp at h;omega
  obtain⟨i,rfl⟩:∃i,q=i+1:=⟨q-1,aa⟩
  clear h;have ei:((i+1:Nat):Int)-1=i:=aa;rw [ei];have amP:V 4294967296 ((X.drop i).take (m+3))<4294967296*V 4294967296 y':=by have h1:=jU (b:=4294967296) (X.drop i) (m+3) (by simp;omega);have h2:=bH (b:=4294967296) ar ((lX.drop i).drop (m+3));have h3:=Int.mul_nonneg (show (0:Int)<=4294967296^(m+3)from Int.le_of_lt (Int.pow_pos ar)) h2;have h4:V 4294967296 (X.drop i)=nth X i+4294967296*V 4294967296 (X.drop (i+1)):=(by rw [fu aa];rfl);have h5:=lX.nth (i:=i) aa;omega
  have ZL:=fun(rows:Pm.Rows) clk hr=>KZ (id:=58) (ver:=0) (off:=i) (m:=m) X y' rows clk hr amN aa ly' asA lX aa aa amP;have e6:(i:Int)+((m:Int)+2)+1=((i+m+3:Nat):Int):=aa;have e7:((i:Int)+(m:Int)+3).toNat-i=m+3:=aa;apply (ft);refine W.wI fun K hK=>?_;simp (disch:=omega) [gw,ZJ,hXl,e6,e7];refine alr (ZL _ _ ZJ) ?_;rintro r rows' bV ⟨D,rfl,rfl,rfl,hDl,lD,hDd,hDv⟩;have g9:=UU (g:=V 4294967296 ((X.drop i).take (m+3))/V 4294967296 y') lX lD asB ZI aa hDl hDd rfl hDv hXU;have hg0:0<=V 4294967296 ((X.drop i).take (m+3))/V 4294967296 y':=Int.ediv_nonneg (bH ar ((lX.drop i).take _)) (Int.le_of_lt ZI);have Tf:V 4294967296 ((X.drop i).take (m+3))/V 4294967296 y'<4294967296:=Int.ediv_lt_of_lt_mul ZI amP;generalize V 4294967296 ((X.drop i).take (m+3))/V 4294967296 y'=g at *;have asD:(X.take i++D).length=ql+m+2:=by simp [hDl];omega
  have lX2:cV 4294967296 (X.take i++D):=cV.append.2 ⟨lX.take i,lD⟩;obtain⟨asE,asF⟩:=g9;generalize X.take i++D=X2 at *;apply fN agj ZK;refine W.lw [4,9,10,11,12,13] hK ?_;clear hK K;simp;refine bB fun K hK=>?_;refine hK _ ⟨i,_,ak _ [4,9,10,11,12,13],aa,v4,X2,Q.set i g,_,_,rfl,av,av,aa,asD,by simp [ZK],lX2,lQ.set ⟨hg0,Tf⟩,?_,asE⟩;rw [asF,fu (l:=Q.set i g) (i:=i) (by simp;omega),fe aa,drop_set_of_lt aa,<-hVX];simp only [V,Int.pow_succ];generalize V 4294967296 (Q.drop (i+1))=vq at *;grind
 ·have Jq:q=0:=by simp at h;omega
  subst Jq;simp only [drop_zero,Int.pow_zero,Int.one_mul]at hVX hXU;have hX0:=bH (b:=4294967296) ar lX;have hQe:V 4294967296 x'/V 4294967296 y'=V 4294967296 Q:=by have e:(V 4294967296 Q+1)*V 4294967296 y'=V 4294967296 Q*V 4294967296 y'+V 4294967296 y':=aG;rw [Int.ediv_eq_iff_of_pos ZI];constructor<;>omega
  have hRe:V 4294967296 x'%V 4294967296 y'=V 4294967296 X:=by have h3:=Int.emod_def (V 4294967296 x') (V 4294967296 y');rw [hQe,Int.mul_comm]at h3;omega
  have hXt:V 4294967296 (X.take (m+2))=V 4294967296 X:=by
   have h1:=jU (b:=4294967296) X (m+2) aa;have h2:=bH (b:=4294967296) ar (lX.drop (m+2));have h3:=bH (b:=4294967296) ar (lX.take (m+2));have h4:(0:Int)<4294967296^(m+2):=Int.pow_pos ar
   rcases Int.lt_or_le 0 (V 4294967296 (X.drop (m+2)))with h5 | h5
   ·exfalso;have:=Int.mul_le_mul_of_nonneg_left (show 1<=V 4294967296 (X.drop (m+2))by omega) (Int.le_of_lt h4);omega
   ·have:V 4294967296 (X.drop (m+2))=0:=(by omega);rw [this]at h1;omega
  rw [hQe,hRe,<-hXt];have zQ:=bG ZK;have zX:=bG hXl;have nj:=dy Q aa;rw [vA lQ]at nj;have asG:=ZC (X.take (m+2)) s ZH (by simp;omega) (lX.take _);apply (ey);refine W.freeze 71 (by simp [agj]) fun K hK=>?_;simp [agj,zQ];refine hK _ ?_;clear hK K;refine W.freeze 58 (by simp [ZJ]) fun K hK=>?_;simp [ZJ,zX];refine hK _ ?_;clear hK K;have e8:((m:Int)+2).toNat=m+2:=aa;apply W.sd;apply jK nj;simp (disch:=omega) [gw,hXl,e8];apply cT asG;exact eK [4,5,6]
theorem Fb(hB:0<B)(hA:0<=A):(A%B=0->(-A)/B = -(A/B)∧(-A)%B=0)∧(0<A%B->(-A)/B = -(A/B+1)∧(-A)%B=B-A%B):=by
 have h1:=Int.mul_ediv_add_emod A B;have h2:=Int.emod_lt_of_pos A hB
 constructor
 ·intro h;refine(Int.ediv_emod_unique hB).2 ⟨?_,aa,aa⟩;rw [Int.mul_neg];omega
 ·intro h;refine(Int.ediv_emod_unique hB).2 ⟨?_,aa,aa⟩;rw [Int.mul_neg,Int.mul_add];omega
theorem UW(n m:Bool)(hB:0<B)(hA:0<=A) :
  (¬(n=true∧0<A%B)->(if n=true then -A else A)/(if m=true then -B else B)=(if (n != m)=true then -(A/B)else A/B)∧(if n=true then -A else A)%(if m=true then -B else B)=A%B) ∧
  (n=true->0<A%B->(if n=true then -A else A)/(if m=true then -B else B)=(if (n != m)=true then -(A/B+1)else A/B+1)∧(if n=true then -A else A)%(if m=true then -B else B)=B-A%B):=by
 obtain⟨p1,p2⟩:=Fb hB hA;have h0:=Int.emod_nonneg A (show B≠0 by omega)
 cases n<;>cases m<;>simp [Int.ediv_neg,Int.emod_neg]
 ·exact⟨fun h=>by have:=p1 aa;exact⟨this.1,aa⟩,p2⟩
 ·exact⟨fun h=>by have:=p1 aa;exact⟨aa,aa⟩,fun h=>by have:=p2 h;exact⟨aa,this.2⟩⟩
theorem UX(n:Bool)(l:List Int)(h:rB l):aj 143 [IV n l] (I (V 4294967296 l)):=by apply bL [(0,IV n l)] Tryz.func143;apply mz [1,2];apply my (mC l h.len h.xd);refine aU (gf _ (pZ h) false) ?_;exact eK [2]
theorem UY(n:Bool)(l:List Int):aj 258 [IV n l] (ae (if l.length=0 then 0 else if n=true then -1 else 1)):=by
 apply bL [(0,IV n l)] Tryz.func258;apply aR [1];apply (iR)
 apply fi [1,3]<;>intro h
 ·have h:l = []:=by simp at h;exact h
  subst h;exact dS [2]
 ·have h:l.length≠0:=by simp at h;simpa using h
  rw [if_neg h]
  apply fi [8]<;>intro h
  ·subst h;exact dS [2]
  ·subst h;apply W.skip;exact dS [2]
theorem ZM(p:RP)(hp:p.length<9223372036854775808):aj 83 [Pg p] (ae ((p.length:Int)-1)):=by apply bL [(0,Pg p)] Tryz.func83;apply eQ [0] [2];exact gK
theorem HT(p:RP)(h:qp p):aj 145 [Pg p] (I (lead (mi p))):=by
 have hl:=h.len;have eB:=bS (p.map gv);rw [length_map]at eB;apply bL [(0,Pg p)] Tryz.func145;apply fB [0,2];apply gT (gi p h) [0,2];rw [show aK (p.map gv)=mi p from rfl]at eB |-;generalize mi p=x at *
 apply fi [0,2,7]<;>intro h
 ·have h:x = []:=by simp at h;exact h
  subst h;apply aR [2];apply W.ret;simp [go];exact⟨Int.le_refl 0,rfl⟩
 ·have h:x ≠ []:=by simp at h;exact h
  have n7:0<x.length:=length_pos_iff.2 h;apply W.skip;have e1:((x.length:Int)-1).toNat=x.length-1:=aa;apply W.sr;simp (disch:=omega) [gw,e1];apply c9 [2];apply W.ret;simp [go,lead]
theorem HU{x:Int}(h0:0<=x)(h:x<4294967296^k):sz LL x<=k:=dp fV (by have e:((4294967296^k:Nat):Int)=(4294967296:Int)^k:=Int.natCast_pow 4294967296 k;show x.natAbs<4294967296^k;omega)
theorem NG{x:Int}(h0:0<=x)(h:sz LL x<=k)(hk:k<1099511627776):rB (aI LL x.toNat):=⟨fy fV _,by have e:x.natAbs=x.toNat:=aa;unfold sz at h;rw [e]at h;omega⟩
theorem UZ{x:Int}(h0:0<=x):V 4294967296 (aI LL x.toNat)=x:=by have:=jT fV x.toNat;rw [show((LL:Nat):Int)=4294967296 from rfl]at this;rw [this];omega
theorem ZN{x:Int}(h0:0<=x):(0<(aI LL x.toNat).length)↔0<x:=by rw [length_pos_iff,Ne,eT fV];omega
theorem HV(n m:Bool)(l k:List Int)(pP:rB l)(h':rB k)(hl:l.length<1099511627774)(hk:k.length<1099511627774) :
  aj 260 [IV n l,IV m k] (if V 4294967296 k=0 then .cW [I 0,I 0,ae 2]else .cW [I (iv n l/iv m k),I (iv n l%iv m k),ae 0]):=by
 have p1:=pZ pP;have p2:=pZ h';apply bL [(0,IV n l),(1,IV m k)] Tryz.func260;apply aR [2,3,4,5]
 by_cases h0:V 4294967296 k=0
 ·rw [if_pos h0];apply gT (HS l k pP h' h0) [2,3,4,5,6,7,8]
  apply cS [2,3,4,5,6,7,8,19]<;>intro h
  ·apply aR [4,5,6];apply W.ret;simp [go];rfl
  ·cases h
 ·rw [if_neg h0];have hB:0<V 4294967296 k:=aa;have ME:=Bj l k pP h' h0 hl hk;obtain⟨d1,d2⟩:=UW n m hB p1;rw [show(if n=true then -V 4294967296 l else V 4294967296 l)=iv n l from rfl,show(if m=true then -V 4294967296 k else V 4294967296 k)=iv m k from rfl]at d1 d2;have q0:=Int.ediv_nonneg p1 p2;have r0:=Int.emod_nonneg (V 4294967296 l) h0;have r1:=Int.emod_lt_of_pos (V 4294967296 l) hB;have mr:sz LL (V 4294967296 l/V 4294967296 k)<=l.length:=HU q0 (Int.lt_of_le_of_lt (Int.ediv_le_self _ p1) (nZ ar pP.xd));have asH:sz LL (V 4294967296 l%V 4294967296 k)<=k.length:=HU r0 (Int.lt_trans r1 (nZ ar h'.xd));apply gT ME [2,3,4,5,6,7,8];generalize V 4294967296 l/V 4294967296 k=Q,V 4294967296 l%V 4294967296 k=R at *
  apply cS [2,3,4,5,6,7,8,19]<;>intro h
  ·cases h
  apply W.skip;apply kh (gf Q q0 (n != m)) (gf R r0 false);apply bM [2,3,4,5,7,8]
  refine W.fR (fun σ=>aQ σ [(4, .ptr 4 2 0 0),(5, .ptr 5 3 0 0)] fun rows clk=>rows 4=some ⟨2,38,2,[ie (iv n l/iv m k)]⟩∧rows 5=some ⟨3,38,2,[ie (iv n l%iv m k)]⟩) ?_ ?_
  ·
   by_cases agk:n=true∧0<R
   ·obtain⟨rfl,hR⟩:=agk;obtain⟨e1,e2⟩:=d2 rfl hR;rw [e1,e2];have hdp:=(ZN r0).2 hR;have ZK:=NG q0 mr pP.len;have hRl:=NG r0 asH h'.len;have amQ:=Na (aI LL Q.toNat) [1] ZK.len av ZK.xd (cV.cons.2 ⟨ar,cV.nil⟩);rw [UZ q0,nv]at amQ;have amR:=E1 k (aI LL R.toNat) h'.len hRl.len h'.xd hRl.xd;rw [UZ r0,KI,if_neg aa]at amR
    refine W.dx (fun σ=>aQ σ [(2, .ptr 2 0 0 0),(3, .ptr 3 1 0 0),(4, .ptr 4 2 0 0),(5, .ptr 5 3 0 0),(7,N Q),(8,N R),(38, .bool true)] fun rows clk=>rows 2=some ⟨0,38,2,[[.bool true,us l]]⟩∧rows 3=some ⟨1,38,2,[[.bool m,us k]]⟩∧rows 4=some ⟨2,38,2,[ie (if true=m then Q else -Q)]⟩∧rows 5=some ⟨3,38,2,[ie R]⟩) (fun K hK=>?_) ?_
    ·apply dB hdp;exact hK _ _ (ak _ [2,3,4,5,7,8,38]) ⟨_,_,rfl,av,av,av,av⟩
    rintro _ ⟨rows,clk,rfl,bE,bA,cN,dj⟩
    apply (dI)<;>intro h
    ·apply gT amQ [2,3,4,5,7,8];apply lF bA amR;apply bM [2,3,4,5,7,8];refine W.wI fun K hK=>?_;apply fN bE bA;refine aU (gf (Q+1) aa (!m)) ?_;apply (cp);refine aU (gf (V 4294967296 k-R) aa false) ?_;apply fN cN dj;exact hK _ ⟨_,ak _ [4,5],_,_,rfl,by cases m<;>simp,av⟩
    ·cases h
   ·obtain⟨e1,e2⟩:=d1 agk;rw [e1,e2]
    refine W.dx (fun σ=>aQ σ [(4, .ptr 4 2 0 0),(5, .ptr 5 3 0 0),(38, .bool false)] fun rows clk=>rows 4=some ⟨2,38,2,[ie (if (n != m)=true then -Q else Q)]⟩∧rows 5=some ⟨3,38,2,[ie R]⟩) (fun K hK=>?_) ?_
    ·cases n with
     | false =>
      apply (cp);exact hK _ _ (ak _ [4,5,38]) ⟨_,_,rfl,by cases m<;>simp,av⟩
     | true =>
      have hR:R=0:=(by simp at agk;omega);subst hR;apply (cp);exact hK _ _ (ak _ [4,5,38]) ⟨_,_,rfl,by cases m<;>simp,av⟩
    rintro _ ⟨rows,clk,rfl,cN,dj⟩
    apply (dI)<;>intro h
    ·cases h
    ·apply W.skip;exact⟨_,ak _ [4,5],_,_,rfl,cN,dj⟩
  rintro _ ⟨rows,clk,rfl,cN,dj⟩;generalize iv n l/iv m k=q,iv n l%iv m k=r at *;apply W.sd;apply fN cN dj;refine aM bX ?_;apply fN cN dj;rw [if_pos bX];apply fN cN dj;refine aM bX ?_;exact eK [4,5,6]
theorem K2(n m:Bool)(l k:List Int)(h:rB l)(h':rB k)(hl:l.length<1099511627774)(hk:k.length<1099511627774)(h0:V 4294967296 k≠0) :
  aj 234 [IV n l,IV m k] (if iv n l%iv m k=0 then .cW [I (iv n l/iv m k),ae 0]else .cW [I 0,ae 3]):=by
 have ME:=HV n m l k h h' hl hk;rw [if_neg h0]at ME;have oq:0<=iv n l%iv m k:=Int.emod_nonneg _ (by unfold iv;split<;>omega);generalize iv n l/iv m k=q,iv n l%iv m k=r at *;have hrn:(aI LL r.natAbs = [])↔r=0:=by rw [eT fV];omega
 apply bL [(0,IV n l),(1,IV m k)] Tryz.func234;apply fk [2,3,4] ME [4,6,7,8]
 apply cS [4,6,7,8,17]<;>intro h
 ·cases h
 apply (jm);apply aR [4,6,23]
 by_cases hr:r=0
 ·rw [if_pos hr]
  apply (dI)<;>intro h
  ·exfalso;have h2:=hrn.2 hr;rw [h2]at h;simp at h
  ·apply W.skip;exact dS [4,5]
 ·rw [if_neg hr]
  apply (dI)<;>intro h
  ·apply aR [4,5];apply W.ret;simp [go];rfl
  ·exfalso;simp at h;exact hr (hrn.1 h)
def bK(l:List Int):Nat:=l.foldl (fun g c=>Nat.gcd g c.natAbs) 0
theorem gcd_one:∀l:List Int,l.foldl (fun g c=>Nat.gcd g c.natAbs) 1=1
 | []=>rfl
 | c::l=>by simp only [foldl_cons,Nat.gcd_one_left];exact gcd_one l
theorem K3(l:List Int)(i:Nat)(h:bK (l.take i)=1):bK l=1:=by unfold bK at *;rw [<-take_append_drop i l,foldl_append,h];exact gcd_one _
theorem QR(l:List Int)(i:Nat)(h:i<l.length):bK (l.take (i+1))=Nat.gcd (bK (l.take i)) (nth l i).natAbs:=by unfold bK;rw [bt h,foldl_append];rfl
theorem amS(x:Nat):N (x:Int)=us (aI LL x):=rfl
theorem Bk{x:Nat}(h:x<4294967296^k):(aI LL x).length<=k:=yX fV h
theorem HW(p:RP)(K0:Nat)(hK0:K0<1099511627774)(hp:∀c∈p,cV 4294967296 c.2∧c.2.length<=K0)(MA:p.length<1099511627776):aj 233 [Pg p] (I (bK (p.map gv))):=by
 have hng:∀c∈p,(gv c).natAbs=(V 4294967296 c.2).toNat:=fun c hc=>by have:=bH (b:=4294967296) ar (hp c hc).1;unfold gv iv;split<;>omega
 apply bL [(0,Pg p)] Tryz.func233;apply eQ [0,2] [0,2,3];refine W.Kw 3 (us []) av rfl fun K hK=>?_;refine W.lw [0,2,3] hK ?_;clear hK K;simp;have asJ:∀i,i<p.length->(nth (p.map gv) i).natAbs=(V 4294967296 (nth p i).2).toNat:=fun i hi=>by rw [tX];exact hng _ (bo hi)
 refine W.fR (fun σ=>aQ σ [(2, .ptr 2 0 0 0),(3,us (aI LL (bK (p.map gv))))] fun rows clk=>rows 2=some ⟨0,38,2,[[.bool false, .nil]]⟩∧bK (p.map gv)<4294967296^K0) ?_ ?_
 ·
  apply yM [2,3,10,11,12]
  refine W.aO (fun q σ=>∃(i:Nat),aQ σ [(2, .ptr 2 0 0 0),(3,us (aI LL (bK ((p.map gv).take i)))),(10,Pg p),(11,ae p.length),(12,ae i)] fun rows clk=>rows 2=some ⟨0,38,2,[[.bool false, .nil]]⟩∧q=p.length-i∧i<=p.length∧bK ((p.map gv).take i)<4294967296^K0) p.length ?_ ?_
  ·exact⟨_,Gh.fr [(2, .ptr 2 0 0 0),(3,us (aI LL (bK ((p.map gv).take 0)))),(10,Pg p),(11,ae p.length),(12,ae (0:Nat))] (by simp [bK,kY]),0,_,_,rfl,av,aa,aa,by simp [bK];exact Nat.pow_pos ar⟩
  rintro q _ ⟨i,rows,clk,rfl,bE,hq,hi,Gk⟩
  apply ef [2,3,10,11,12,13]<;>intro h
  ·have hi:i<p.length:=(by simp at h;omega);obtain⟨qQ,JR⟩:=hp _ (bo hi);have hV0:=bH (b:=4294967296) ar qQ;have hVl:=nZ (b:=4294967296) ar qQ;obtain⟨x0,n7⟩:=Int.eq_ofNat_of_zero_le hV0;have HX:=mC (nth p i).2 aa qQ;rw [n7,amS]at HX;have hxb:x0<4294967296^K0:=(by have e:((4294967296^(nth p i).2.length:Nat):Int)=(4294967296:Int)^(nth p i).2.length:=Int.natCast_pow 4294967296 _;have e2:4294967296^(nth p i).2.length<=4294967296^K0:=Nat.pow_le_pow_right ar JR;omega);have hgs:=QR (p.map gv) i (au hi);rw [asJ i hi,n7]at hgs;simp only [Int.toNat_natCast]at hgs;apply (ft);apply fj bE [2,3,5,10,11,12];apply gT HX [2,3,6,10,11,12];apply (iR)
   refine W.aO (fun q σ=>∃(g x:Nat),aQ σ [(2, .ptr 2 0 0 0),(3,us (aI LL g)),(6,us (aI LL x)),(10,Pg p),(11,ae p.length),(12,ae i)] fun rows clk=>rows 2=some ⟨0,38,2,[[.bool false, .nil]]⟩∧q=x∧Nat.gcd g x=bK ((p.map gv).take (i+1))∧g<4294967296^K0∧x<4294967296^K0) x0 ?_ ?_
   ·exact⟨_, .refl,bK ((p.map gv).take i),x0,_,_,rfl,by simp [bE],rfl,hgs.symm,Gk,hxb⟩
   rintro q2 _ ⟨g,x,rows,clk,rfl,bE,XL,hgx,hg,hx⟩
   apply cS [2,3,6,10,11,12,21]<;>intro h
   ·have h1:aI LL x ≠ []:=(by simp at h;exact length_pos_iff.1 h);have n7:x≠0:=fun h2=>h1 ((eT fV).2 h2);have hlg:=Bk hg;have Zg:=Bk hx;have ME:=Bj (aI LL g) (aI LL x) ⟨fy fV _,aa⟩ ⟨fy fV _,aa⟩ (by rw [show(4294967296:Int)=((LL:Nat):Int)from rfl,jT fV];omega) aa aa;rw [show(4294967296:Int)=((LL:Nat):Int)from rfl,jT fV,jT fV,<-Int.natCast_emod,amS]at ME;have hm:=Nat.mod_lt g (show 0<x by omega);have hgr:Nat.gcd x (g%x)=Nat.gcd g x:=(by rw [Nat.gcd_comm x,<-Nat.gcd_rec,Nat.gcd_comm]);apply (qj);apply gT ME [2,6,8,10,11,12];refine bB fun K hK=>?_;refine hK _ ⟨g%x,_,ak _ [2,3,6,10,11,12],aa,x,g%x,_,_,rfl,by simp [bE],rfl,by rw [hgr,hgx],hx,aa⟩
   ·have h1:aI LL x = []:=(by simp at h;exact h);have n7:x=0:=(eT fV).1 h1;subst n7;rw [Nat.gcd_zero_right]at hgx;apply (ey)
    refine W.dx (fun σ=>∃(b:Bool),aQ σ [(2, .ptr 2 0 0 0),(3,us (aI LL g)),(10,Pg p),(11,ae p.length),(12,ae i),(39, .bool b)] fun rows clk=>rows 2=some ⟨0,38,2,[[.bool false, .nil]]⟩∧(b=true->g=1)) (fun K hK=>?_) ?_
    ·by_cases h2:(aI LL g).length=1
     ·obtain⟨w,hw⟩:∃w,aI LL g = [w]:=match aI LL g,h2 with | [w],_=>⟨w,rfl⟩
      have hgv:=jT fV g;rw [hw,nv]at hgv;rw [hw]at hK |-;have hnw:nth [w] 0=w:=rfl;apply dB hnw;exact hK _ _ (ak _ [2,3,10,11,12,39]) ⟨_,_,_,rfl,by simp [bE],fun h3=>by simp at h3;omega⟩
     ·have h2':((aI LL g).length:Int)≠1:=(by omega);have hb:(((aI LL g).length:Int)==1)=false:=au h2';apply fN hb h2;exact hK _ _ (ak _ [2,3,10,11,12,39]) ⟨_,_,_,rfl,by simp [bE],fun h3=>by cases h3⟩
    rintro _ ⟨b,rows,clk,rfl,bE,hb⟩
    apply (dI)<;>intro h
    ·have Tf:=hb h;subst Tf;have oX:=K3 _ _ hgx.symm;apply (ey);rw [oX];exact⟨_,ak _ [2,3],rows,clk,rfl,bE,by rw [oX]at *;exact hg⟩
    ·apply W.skip;subst hgx;refine bB fun K hK=>?_;refine hK _ ⟨p.length-(i+1),_,ak _ [2,3,10,11,12],aa,i+1,_,_,rfl,by simp [bE],aa,aa,hg⟩
  ·have hi:i=p.length:=(by simp at h;omega);rw [take_of_length_le (by simp;omega)]at Gk |-;apply (ey);exact⟨_,ak _ [2,3],rows,clk,rfl,bE,Gk⟩
 rintro _ ⟨rows,clk,rfl,bE,Gk⟩;have hlg:=Bk Gk;have HX:=mC (aI LL (bK (p.map gv))) aa (fy fV _);rw [show(4294967296:Int)=((LL:Nat):Int)from rfl,jT fV]at HX;have amU:=gf (bK (p.map gv):Int) aa false;apply kh HX amU;exact EU bE [2]
structure PD(x:List Int):Prop where
 sz:∀v∈x,sz LL v<1099511627774
 len:x.length<1099511627774
theorem PD.of(h:Bd LL s n x)(hs:s<1099511627774)(hn:n<1099511627774):PD x:=⟨fun v hv=>Nat.lt_of_le_of_lt (h.sz v hv) hs,Nat.lt_of_le_of_lt h.len hn⟩
theorem K4(v:Int):V 4294967296 (aI LL v.natAbs)=v.natAbs:=jT fV v.natAbs
theorem Fc(hv:sz LL v<1099511627774)(hc:sz LL c<1099511627774)(h0:c≠0):aj 234 [I v,I c] (if v%c=0 then .cW [I (v/c),ae 0]else .cW [I 0,ae 3]):=by have:=K2 (decide (v<0)) (decide (c<0)) (aI LL v.natAbs) (aI LL c.natAbs) ⟨fy fV _,by unfold sz at hv;omega⟩ ⟨fy fV _,by unfold sz at hc;omega⟩ hv hc (by rw [K4];omega);rwa [xe,xe]at this
def pk(c v:Int):Int:=if v%c=0 then v/c else 0
theorem HY(x:List Int)(c:Int)(hx:PD x)(hc:sz LL c<1099511627774)(h0:c≠0):aj 214 [Po x,I c] (Po (aK (x.map (pk c)))):=by
 have hxl:=hx.len;apply bL [(0,Po x),(1,I c)] Tryz.func214;apply eQ [0,3] [0,3,5];refine W.row (id:=10) (emap ie (replicate x.length 0)) (by simp;exact⟨rfl,rfl,rfl⟩) (rC _) ?_;apply dU [3,5,11,12,13]
 refine W.aO (fun q σ=>∃(i:Nat) (z:List Int) (v10:Nat),aQ σ [(3, .ptr 3 0 0 0),(5, .own 10 v10 0 x.length),(11,Po x),(12,ae x.length),(13,ae i)] fun rows clk =>
  rows 3=some ⟨0,38,2,[ie c]⟩∧rows 10=some ⟨v10,38,2,emap ie z⟩∧q=x.length-i∧i<=x.length∧z.length=x.length∧z.take i=(x.take i).map (pk c)) x.length ?_ ?_
 ·exact⟨_, .refl,0,replicate x.length 0,_,_,_,rfl,av,av,aa,aa,av,av⟩
 rintro q _ ⟨i,z,v10,rows,clk,rfl,bA,HZ,hq,hi,hz,hv⟩
 apply ef [3,5,11,12,13,14]<;>intro h
 ·have hi:i<x.length:=by simp at h;omega
  have hE:=Fc (hx.sz _ (bo hi)) hc h0
  have hE2:aj 234 [I (nth x i),I c] (.cW [I (pk c (nth x i)),ae (if nth x i%c=0 then 0 else 3)]):=by
   unfold pk
   split at hE
   ·rename_i h1;rw [if_pos h1,if_pos h1];exact hE
   ·rename_i h1;rw [if_neg h1,if_neg h1];exact hE
  have hts:(x.take (i+1)).map (pk c)=(x.take i).map (pk c) ++ [pk c (nth x i)]:=by rw [bt hi];simp
  generalize (if nth x i%c=0 then(0:Int)else 3)=er,pk c (nth x i)=ev at *;generalize hxe:nth x i=xi at *;apply (ft);apply fj hxe [3,5,6,7,11,12,13];refine AD bA hE2 fun K hK=>?_;apply fN HZ hz;refine W.lw [3,5,11,12,13] hK ?_;clear hK K;simp;refine bB fun K hK=>?_;refine hK _ ⟨x.length-(i+1),_,ak _ [3,5,11,12,13],aa,i+1,z.set i ev,v10,_,_,rfl,by simp [bA],av,aa,aa,by simp [hz],?_⟩;rw [lf hv aa,hts]
 ·have hi:i=x.length:=by simp at h;omega
  subst hi;rw [bG hz,take_length]at hv;have n6:=bG hz;apply (ey)
  have hzb:PB z:=by
   rw [hv];refine⟨fun v hv=>?_,by simpa using by omega⟩;simp only [mem_map]at hv;obtain⟨w,hw,rfl⟩:=hv;have h1:=hx.sz w hw;show sz LL (pk c w)<1099511627776;refine Nat.lt_of_le_of_lt (cY fV (y:=w) ?_) aa
   unfold pk;split
   ·exact Int.natAbs_ediv_le_natAbs _ _
   ·simp
  have hN:=dW hzb;rw [hv]at hN HZ n6;generalize x.map (pk c)=y at *;have Js:y.length=x.length:=by rw [<-hv];exact hz
  apply lG HZ n6 hN;exact eK [4]
theorem H0(l:List RP)(K0:Nat)(hK0:K0<1099511627774)(hp:∀p∈l,∀c∈p,cV 4294967296 c.2∧c.2.length<=K0)(hl:l.length<1099511627776)(hf:l.flatten.length<1099511627776) :
  aj 213 [aw pe l] (I (bK (l.flatten.map gv))):=by
 apply bL [(0,aw pe l)] Tryz.func213;apply eQ [0,2] [0,2,3];refine W.nil 3 3 38 2 av ar fun K hK=>?_;refine W.lw [0,2,3] hK ?_;clear hK K;simp;apply dU [2,3,6,7,8]
 refine W.aO (fun q σ=>∃(i v3:Nat) (A:RP),aQ σ [(2, .ptr 2 0 0 0),(3, .own 3 v3 0 A.length),(6,aw pe l),(7,ae l.length),(8,ae i)] fun rows clk =>
  rows 2=some ⟨0,38,2,[[.bool false, .nil]]⟩∧rows 3=some ⟨v3,38,2,emap ge A⟩∧q=l.length-i∧i<=l.length∧A=(l.take i).flatten) l.length ?_ ?_
 ·exact⟨_, .refl,0,_,[],_,_,rfl,av,by simp [emap],aa,aa,av⟩
 rintro q _ ⟨i,v3,A,rows,clk,rfl,bE,bA,hq,hi,hA⟩
 apply ef [2,3,6,7,8,9]<;>intro h
 ·have hi:i<l.length:=by simp at h;omega
  have Xw:(l.take (i+1)).flatten=(l.take i).flatten++nth l i:=by rw [bt hi];simp
  have Jn:(l.take (i+1)).flatten.length<=l.flatten.length:=by have e:=take_append_drop (i+1) l;have e2:l.flatten=(l.take (i+1)).flatten++(l.drop (i+1)).flatten:=(by rw [<-flatten_append,e]);rw [e2,length_append];omega
  have AV:(l.take i).flatten.length+(nth l i).length<1099511627776:=by rw [Xw,length_append]at Jn;omega
  have ZO:(l.take (i+1)).flatten.length=(l.take i).flatten.length+(nth l i).length:=by rw [Xw,length_append]
  rw [<-hA]at Xw AV ZO;generalize Ue:nth l i=p at *;apply (ft);apply fj Ue [2,3,5,6,7,8];refine q9 bA fun K hK=>?_;refine W.lw [2,3,6,7,8] hK ?_;clear hK K;simp;refine bB fun K hK=>?_;refine hK _ ⟨l.length-(i+1),_,Gh.fr [(2, .ptr 2 0 0 0),(3, .own 3 _ 0 (A++p).length),(6,aw pe l),(7,ae l.length),(8,ae ((i+1:Nat):Int))] (by simp;exact rfl),aa,i+1,_,A++p,_,_,rfl,by simp [bE],av,aa,aa,Xw.symm⟩
 ·have hi:i=l.length:=by simp at h;omega
  subst hi;rw [take_length]at hA;have hG:=HW l.flatten K0 hK0 (fun c hc=>by obtain⟨p,MA,El⟩:=mem_flatten.1 hc;exact hp p MA c El) hf;rw [<-hA]at hG |-;generalize (bK (A.map gv):Int)=g at *;apply (iq);apply iI bA hG;exact EU bE [2]
theorem kv(hx:PB x)(hc:Cn x):aj 145 [Po x] (I (lead x)):=by have:=HT (x.map qA) hx.Ba;rw [show mi (x.map qA)=aK x by simp only [mi,bY],show aK x=x from hc,<-iA]at this;exact this
theorem j0(x:List Int)(hx:x.length<9223372036854775808):aj 83 [Po x] (ae ((x.length:Int)-1)):=by have:=ZM (x.map qA) (au hx);rw [length_map,<-iA]at this;exact this
theorem x8(hx:PB x)(hc:Sz c):aj 181 [Po x,I c] (Po (aY x c)):=by have:=KK (x.map qA) hx.Ba (decide (c<0)) (aI LL c.natAbs) hc.Nc;rw [bY,xe,<-iA]at this;exact this
theorem rI(i:Nat)(x:Int):(replicate (i+1) (0:Int)).set i x=qo i x:=by rw [replicate_succ',set_append];simp [qo]
theorem K5(a b:RP){N:Nat}(ha:qp a)(hb:qp b)(sa:Bd LL s N (a.map gv))(sb:Bd LL s' N (b.map gv))(hB:s+N*(s'+N+1)+s'+N+N+10<1099511627774) :
  aj 215 [Pg a,Pg b] (if mi b = []then .cW [Po [],Po [],ae 0,ae 2]else .cW [Po (xV (mi a) (mi b)).1,Po (xV (mi a) (mi b)).2,ae (jn (mi a) (mi b)),ae 0]):=by
 have hA:Bd LL s N (mi a):=sa.cut;have NH:Bd LL s' N (mi b):=sb.cut;have ca:Cn (mi a):=Cn.cut _;have cb:Cn (mi b):=Cn.cut _;have na:=gi a ha;have nb:=gi b hb;rw [show aK (a.map gv)=mi a from rfl]at na;rw [show aK (b.map gv)=mi b from rfl]at nb;apply bL [(0,Pg a),(1,Pg b)] Tryz.func215;generalize mi a=x,mi b=y at *;apply aR [0,1,4];refine W.Kw 4 (Po []) av rfl fun K hK=>?_;refine W.lw [0,1,4] hK ?_;clear hK K;simp;apply kh na nb;apply bM [1,4,5]
 apply cS [1,4,5,18]<;>intro h
 ·have h:y = []:=by simp at h;exact h
  rw [if_pos h];apply aR [4,5,6,7];apply W.ret;simp [go];rfl
 have hy:y ≠ []:=by simp at h;exact h
 clear h;rw [if_neg hy];have KL:0<y.length:=length_pos_iff.2 hy;have U0:=hA.len;have hNy:=NH.len;have hsy:=fU NH;have hmN:N*(s'+N+1)>=0:=Nat.zero_le _;have hL:=kv (PB.of NH aa aa) cb;have hDx:=j0 x aa;have hDy:=j0 y aa;apply rf hL [1,4,5,8];have hkk:(if (0:Int)<(x.length:Int)-1-((y.length:Int)-1)+1 then(x.length:Int)-1-((y.length:Int)-1)+1 else 0)=(jn x y:Int):=by unfold jn;split<;>omega
 apply kh hDx hDy;apply u6 hkk [1,4,5,6,8];have hkN:jn x y<=N:=by unfold jn;omega
 have yE:=hsy;generalize Nw:s'+N+1=d at *;have U1:∀j,j<=N->(N-j)*d<=N*d:=fun j _=>Nat.mul_le_mul_right _ aa;apply dU [1,4,5,6,8,9]
 refine W.aO (fun j σ=>∃(q r:List Int),aQ σ [(1,Po y),(4,Po q),(5,Po r),(6,ae (jn x y)),(8, .ptr 8 0 0 0),(9,ae ((j:Int)-1))] fun rows clk =>
  rows 8=some ⟨0,38,2,[ie (lead y)]⟩∧j<=jn x y∧ps y (lead y) j q r=xV x y∧Bd LL (s+(N-j)*d) (N+N) q∧Bd LL (s+(N-j)*d) (N+N) r∧Cn r) (jn x y) ?_ ?_
 ·exact⟨_, .refl,[],x,_,_,rfl,av,aa,rfl,⟨av,fun c hc=>by cases hc⟩,hA.mono aa aa,ca⟩
 rintro j _ ⟨q,r,rows,clk,rfl,mI,hj,x9,bq,br,cr⟩
 apply cS [1,4,5,6,8,9,31]<;>intro h
 ·have ZP:0<j:=by simp at h;omega
  obtain⟨i,rfl⟩:∃i,j=i+1:=⟨j-1,aa⟩
  clear h;have ei:((i+1:Nat):Int)-1=i:=aa;rw [ei];have ZQ:=U1 (i+1) aa;have hT:s+(N-i)*d=s+(N-(i+1))*d+s'+N+1:=by rw [show N-i=(N-(i+1))+1 by omega,Nat.add_mul,Nat.one_mul];omega
  obtain⟨b1,b2⟩:=AJ fV NH bq br (show i<N by omega);rw [<-hT]at b1 b2;have CC:=U1 i aa;have hx:=Ub (y:=y) (i:=i) br;have bs:=Bd.qo hx i;have hLr:=kv (PB.of br aa aa) cr;have hDr:=j0 r (by have:=br.len;omega);have bqs:=bq.aY fV hsy;have brs:=br.aY fV hsy;have bm:=bs.bN fV NH;have f1:=x8 (c:=lead y) (PB.of bq aa aa) (show sz LL (lead y)<1099511627776 by omega);have f2:=x8 (c:=lead y) (PB.of br aa aa) (show sz LL (lead y)<1099511627776 by omega);have f3:=Qz (PB.of bqs aa aa) (PB.of bs aa aa);have f4:=xf bs NH aa;have f5:=Dz (PB.of brs aa aa) (PB.of bm aa aa);rw [show iw (aY q (lead y)) (qo i (vk y r i))=psq (lead y) (vk y r i) i q from rfl]at f3;rw [show fC (aY r (lead y)) (bN (qo i (vk y r i)) y)=wJ y (lead y) (vk y r i) i r from rfl]at f5;have cr2:Cn (wJ y (lead y) (vk y r i) i r):=Cn.fC _ _;have hpx:vk y r i=if r.length=y.length+i then lead r else 0:=rfl
  rw [ps]at x9;generalize XL:psq (lead y) (vk y r i) i q=q2 at *;generalize bE:wJ y (lead y) (vk y r i) i r=r2,bN (qo i (vk y r i)) y=pm,aY q (lead y)=pq,aY r (lead y)=pr at *;generalize vk y r i=xx at *;have Cz:=rI i xx;have agm:(qo i xx).length=i+1:=by simp [qo]
  generalize lead r=lr,lead y=ly at *;apply lW [1,4,5,6,8,9,10];refine W.row (id:=10) (els:=[[.bool false, .nil]]) [ie 0] (by simp;exact⟨rfl,rfl,rfl⟩) ⟨⟨.inl av, .inr ⟨rfl,rfl⟩,trivial⟩,trivial⟩ ?_
  refine W.fR (fun σ=>∃(v10:Nat),aQ σ [(1,Po y),(4,Po q),(5,Po r),(6,ae (jn x y)),(8, .ptr 8 0 0 0),(9,ae i),(10, .ptr 10 v10 0 0)] fun rows clk=>rows 8=some ⟨0,38,2,[ie ly]⟩∧rows 10=some ⟨v10,38,2,[ie xx]⟩) ?_ ?_
  ·
   apply kh hDr hDy;apply bM [1,4,5,6,8,9,10,40]
   by_cases KB:r.length=y.length+i
   ·rw [if_pos KB]at hpx;subst hpx
    apply (dI)<;>intro h
    ·refine u9 hLr fun K hK=>?_;exact hK _ ⟨_,ak _ [1,4,5,6,8,9,10],_,_,_,rfl,by simp [mI],av⟩
    ·exfalso;simp at h;omega
   ·rw [if_neg KB]at hpx;subst hpx
    apply (dI)<;>intro h
    ·exfalso;simp at h;omega
    ·apply W.skip;exact⟨_,ak _ [1,4,5,6,8,9,10],_,_,_,rfl,by simp [mI],av⟩
  rintro _ ⟨v10,rows,clk,rfl,mI,HZ⟩;have e9:((i:Int)+1).toNat=i+1:=aa;apply W.sr;simp (disch:=omega) [gw,e9];apply c9 [1,4,5,6,8,9,10,11];refine W.row (id:=45) (emap ie (replicate (i+1) 0)) (by simp;exact⟨rfl,rfl,rfl⟩) (rC _) ?_;apply oD HZ Cz [1,4,5,6,8,9,11];have g9:=bG agm;refine W.freeze 45 av fun K hK=>?_;simp [g9];refine hK _ ?_;clear hK K;apply lF mI f1;apply jK f3;apply bM [1,4,5,6,8,9,11];refine AD mI f2 fun K hK=>?_;apply eO f4 f5;apply (cp);refine W.lw [1,4,5,6,8,9] hK ?_;clear hK K;simp;refine bB fun K hK=>?_;refine hK _ ⟨i,_,ak _ [1,4,5,6,8,9],aa,q2,r2,_,_,rfl,by simp [mI],aa,x9,b1,b2,cr2⟩
 ·have ZP:j=0:=by simp at h;omega
  subst ZP;simp only [ps]at x9;rw [<-x9];exact rb [4,5,6,7]
def jL(x:List Int):List Int:=aK (x.map (pk (bK x)))
def H3(a b:List Int):List Int:=if jn a b%2=1∧lead b<0 then jL (gL (xV a b).2)else jL (xV a b).2
theorem iB(x:List Int):∀c∈x,((bK x:Nat):Int)∣c:=by
 have key:∀(l:List Int) (g:Nat),(∀c∈l,((l.foldl (fun g c=>Nat.gcd g c.natAbs) g:Nat):Int)∣c)∧l.foldl (fun g c=>Nat.gcd g c.natAbs) g∣g:=by
  intro l
  induction l with
  | nil=>intro g;exact⟨fun c hc=>(by cases hc),Nat.dvd_refl _⟩
  | cons c l ih =>
   intro g;obtain⟨h1,h2⟩:=ih (Nat.gcd g c.natAbs);simp only [foldl_cons];refine⟨fun d hd=>?_,Nat.dvd_trans h2 (Nat.gcd_dvd_left _ _)⟩
   rcases mem_cons.1 hd with rfl | hd
   ·exact Int.ofNat_dvd_left.2 (Nat.dvd_trans h2 (Nat.gcd_dvd_right _ _))
   ·exact h1 d hd
 exact(key x 0).1
theorem H4(hc:c∈x)(h:c≠0):bK x≠0:=by intro h0;have:=iB x c hc;rw [h0]at this;obtain⟨k,hk⟩:=this;simp at hk;exact h hk
theorem cO(hc:Cn x)(h:x ≠ []):bK x≠0:=by have hl:0<x.length:=length_pos_iff.2 h;exact H4 (c:=lead x) (bo aa) (cZ hc hl)
theorem NI(hx:∀c∈x,sz LL c<=s)(hc:Cn x)(h:x ≠ []):sz LL (bK x:Int)<=s:=by have hl:0<x.length:=length_pos_iff.2 h;have hm:lead x∈x:=bo aa;refine Nat.le_trans (cY fV ?_) (hx _ hm);have:=Int.le_of_dvd (a:=(bK x:Int)) (b:=((lead x).natAbs:Int)) (by have:=cZ hc hl;omega) (Int.dvd_natAbs.2 (iB x _ hm));omega
theorem vM(x:List Int)(hx:PD x):aj 213 [.sl [[Po x]]] (I (bK x)):=by
 have hl:=hx.len;have:=H0 [x.map qA] 1099511627773 ar (fun p hp c hc=>by simp only [mem_singleton]at hp;subst hp;simp only [mem_map]at hc;obtain⟨v,hv,rfl⟩:=hc;have h1:=hx.sz v hv;exact⟨fy fV _,by unfold sz at h1;show(aI LL v.natAbs).length<=_;omega⟩) av (by simp;omega);have e:([x.map qA].flatten.map gv)=x:=by simp only [flatten_cons,flatten_nil,append_nil,bY]
 rw [e]at this;have e2:aw pe [x.map qA] = .sl [[Po x]]:=by rw [iA];rfl
 rw [e2]at this;exact this
theorem H5(a b:RP){N:Nat}(ha:qp a)(hb:qp b)(sa:Bd LL s N (a.map gv))(sb:Bd LL s' N (b.map gv))(hB:s+N*(s'+N+1)+s'+N+N+10<1099511627774) :
  aj 138 [Pg a,Pg b] (if mi b = []then .cW [Po [],ae 2]else .cW [Po (H3 (mi a) (mi b)),ae 0]):=by
 have hP:=K5 a b ha hb sa sb hB;have hL:=HT b hb;have hA:Bd LL s N (mi a):=sa.cut;have NH:Bd LL s' N (mi b):=sb.cut;have ca:Cn (mi a):=Cn.cut _;apply bL [(0,Pg a),(1,Pg b)] Tryz.func138;generalize mi a=x,mi b=y at *;apply aR [0,1]
 by_cases hy:y = []
 ·rw [if_pos hy]at hP |-;apply gT hP [1,7,8,9]
  apply cS [1,7,8,9,19]<;>intro h
  ·apply aR [4,5];apply W.ret;simp [go];rfl
  ·cases h
 rw [if_neg hy]at hP |-;have KL:0<y.length:=length_pos_iff.2 hy;have hkN:jn x y<=N:=by unfold jn;have:=hA.len;omega
 obtain⟨_,wW⟩:=Uc fV NH (jn x y) s [] x hkN ⟨av,fun c hc=>by cases hc⟩ (hA.mono aa aa);obtain⟨_,cr⟩:=AK (b:=y) ca;rw [show(ps y (lead y) (jn x y) [] x)=xV x y from rfl]at wW;have hmul:=Nat.mul_le_mul_right (s'+N+1) hkN;have UR:=DA (PB.of wW aa aa);apply gT hP [1,7,8,9]
 apply cS [1,7,8,9,19]<;>intro h
 ·cases h
 apply W.skip;obtain⟨r2,bE⟩:∃r2,r2=if jn x y%2=1∧lead y<0 then gL (xV x y).2 else(xV x y).2:=⟨_,rfl⟩
 have amX:H3 x y=jL r2:=by rw [bE,H3];split<;>rfl
 have hbr:PD r2:=by
  rw [bE];split
  ·exact PD.of wW.gL aa aa
  ·exact PD.of wW aa aa
 have QS:Cn r2:=by
  rw [bE];split
  ·exact Cn.gL _
  ·exact cr
 rw [amX]
 refine W.fR (fun σ=>∃(rows:Pm.Rows) (clk:Nat),σ=⟨fa [(7,Po r2)],rows,clk⟩) ?_ ?_
 ·
  by_cases hk:jn x y%2=1
  ·refine W.dx (fun σ=>∃(rows:Pm.Rows) (clk:Nat),σ=⟨fa [(7,Po (xV x y).2),(28, .bool (decide (lead y<0)))],rows,clk⟩) (fun K hK=>?_) ?_
   ·have wE:(jn x y:Int)%2=1:=(by omega);apply iI wE hL;apply (cp);exact hK _ _ (ak _ [7,28]) ⟨_,_,rfl⟩
   rintro _ ⟨rows,clk,rfl⟩
   refine W.T0 (lead y<0) rfl (fun h=>?_) (fun h=>?_)
   ·rw [if_pos ⟨hk,h⟩]at bE;subst bE;refine u9 UR fun K hK=>?_;exact hK _ ⟨_,ak _ [7],_,_,rfl⟩
   ·rw [if_neg (fun h2=>h h2.2)]at bE;subst bE;apply W.skip;exact⟨_,ak _ [7],_,_,rfl⟩
  ·rw [if_neg (fun h2=>hk h2.1)]at bE;subst bE
   refine W.dx (fun σ=>∃(rows:Pm.Rows) (clk:Nat),σ=⟨fa [(7,Po (xV x y).2),(28, .bool false)],rows,clk⟩) (fun K hK=>?_) ?_
   ·have wE:((jn x y:Int)%2==1)=false:=(by simp;omega);apply dB wE;exact hK _ _ (ak _ [7,28]) ⟨_,_,rfl⟩
   rintro _ ⟨rows,clk,rfl⟩
   apply (dI)<;>intro h
   ·cases h
   ·apply W.skip;exact⟨_,ak _ [7],_,_,rfl⟩
 rintro _ ⟨rows,clk,rfl⟩;clear bE amX
 apply cS [7,33]<;>intro h
 ·have h:r2 = []:=by simp at h;exact h
  subst h;apply aR [4,5];apply W.ret;simp [go];rfl
 ·have h:r2 ≠ []:=by simp at h;exact h
  have hC:=vM r2 hbr;have hgp:=cO QS h;have hO:=HY r2 (bK r2) hbr (Nat.lt_of_le_of_lt (NI (s:=1099511627773) (fun c hc=>by have:=hbr.sz c hc;omega) QS h) ar) aa;rw [show aK (r2.map (pk (bK r2)))=jL r2 from rfl]at hO;generalize (bK r2:Int)=g,jL r2=pr at *;apply W.skip;apply kh hC hO;exact eK [4,5]
theorem ZS(x:List Int):mi (x.map qA)=aK x:=by simp only [mi,bY]
theorem ky(hx:Cn x)(hm:m≠0):Cn (x.map (· * m)):=by
 rcases Nat.eq_zero_or_pos x.length with h | h
 ·have:x = []:=eq_nil_of_length_eq_zero h;subst this;rfl
 ·have e:=tV h
  have:x.map (· * m)=(x.take (x.length-1)).map (· * m) ++ [lead x*m]:=by
   conv=>lhs;rw [e]
   simp
  rw [this];exact iJ (Int.mul_ne_zero (cZ hx h) hm) _
theorem sH(hx:Cn x)(hm:m≠0):aY x m=x.map (· * m):=ky hx hm
theorem K7(hx:Cn x):aY x 1=x:=Cn.ext (Cn.aY _ _) hx fun t=>by rw [cM];omega
theorem K8(x:List Int):gL x=aY x (-1):=Cn.ext (Cn.gL _) (Cn.aY _ _) fun t=>by rw [AG,cM];omega
theorem kz(m:Int)(x:List Int):bK (x.map (· * m))=bK x*m.natAbs:=by
 have key:∀(l:List Int) (g:Nat),(l.map (· * m)).foldl (fun g c=>Nat.gcd g c.natAbs) (g*m.natAbs)=l.foldl (fun g c=>Nat.gcd g c.natAbs) g*m.natAbs:=by
  intro l
  induction l with
  | nil=>intro g;rfl
  | cons c l ih =>
   intro g;simp only [map_cons,foldl_cons];rw [Int.natAbs_mul,Nat.gcd_mul_right,ih]
 have:=key x 0;rw [Nat.zero_mul]at this;exact this
theorem QT(hm:0<m)(g v:Int):pk (g*m) (v*m)=pk g v:=by
 unfold pk;rw [Int.mul_comm v,Int.mul_comm g,Int.mul_emod_mul_of_pos _ _ hm,Int.mul_ediv_mul_of_pos _ _ hm]
 have:m*(v%g)=0↔v%g=0:=by
  constructor
  ·intro h
   rcases Int.mul_eq_zero.1 h with h | h
   ·omega
   ·exact h
  ·intro h;rw [h];simp
 simp only [this]
theorem K9(hm:0<m)(x:List Int):jL (x.map (· * m))=jL x:=by
 unfold jL;rw [kz,map_map];congr 1;refine map_congr_left fun v _=>?_;simp only [Function.comp_apply];have:((bK x*m.natAbs:Nat):Int)=(bK x:Int)*m:=by rw [Int.natCast_mul];congr 1;omega
 rw [this,QT hm]
theorem yc(hx:Cn x)(hm:0<m):jL (aY x m)=jL x:=by rw [sH hx aa,K9 hm]
def sg(c:Int)(k:Nat):Int:=if k%2=1∧c<0 then -1 else 1
theorem U2(c:Int):∀k:Nat,c^k=sg c k*(c.natAbs:Int)^k
 | 0=>by simp [sg]
 | k+1=>by
  have ih:=U2 c k;have hc:c=(if c<0 then -1 else 1)*(c.natAbs:Int):=by split<;>omega
  have hs:sg c (k+1)=sg c k*(if c<0 then -1 else 1):=by
   unfold sg
   by_cases h:c<0
   ·rcases Nat.mod_two_eq_zero_or_one k with h2 | h2
    ·rw [if_pos ⟨aa,h⟩,if_neg aa,if_pos h];rfl
    ·rw [if_neg aa,if_pos ⟨h2,h⟩,if_pos h];rfl
   ·rw [if_neg (fun h2=>h h2.2),if_neg (fun h2=>h h2.2),if_neg h];rfl
  rw [Int.pow_succ,Int.pow_succ,ih,hs]
  conv=>lhs;rw [hc]
  generalize (if c<0 then(-1:Int)else 1)=e at *;have e3:((e*(c.natAbs:Int)).natAbs:Int)=(c.natAbs:Int):=by rw [<-hc]
  rw [e3];grind
theorem U3(c:Int)(k:Nat):sg c k*sg c k=1:=by unfold sg;split<;>rfl
theorem U4(ca:Cn a):H3 a b=jL (aY (xV a b).2 (sg (lead b) (jn a b))):=by
 have cr:=(AK (b:=b) ca).2;unfold H3 sg
 split
 ·rw [K8]
 ·rw [K7 cr]
theorem lj(x:List Int):(jL x).length<=x.length:=Nat.le_trans (bS _) av
theorem H6(x:List Int):(gL x).length<=x.length:=Nat.le_trans (bS _) av
theorem ZT(hb:0<b.length):(H3 a b).length<b.length:=by
 have h1:=EX (a:=a) hb;unfold H3
 split
 ·have h2:=lj (gL (xV a b).2);have h3:=H6 (xV a b).2;omega
 ·have h2:=lj (xV a b).2;omega
theorem agn(a b:List Int):Cn (H3 a b):=by unfold H3;split<;>exact Cn.cut _
def U5(b:List Int):Nat->List Int->List Int->Option (List Int × List Int)
 | 0,q,a=>some (q,a)
 | i+1,q,a=>if a.length<b.length+i then U5 b i q a else if lead a%lead b=0 then U5 b i (q.set i (lead a/lead b)) (fC a (bN (qo i (lead a/lead b)) b))else none
def exF:Option (List Int × List Int)->Option (List Int)
 | some (q,[])=>some (aK q)
 | _=>none
def exact(a b:List Int):Option (List Int):=exF (U5 b (jn a b) (replicate (jn a b) 0) a)
def exR(o:Option (List Int)):PV:=
 match o with
 | some q => .cW [Po q,ae 0]
 | none => .cW [Po [],ae 3]
theorem Bd.set{B:Nat}(h:Bd B s n x)(hv:Pm.sz B v<=s):Bd B s n (x.set i v):=⟨by simpa using h.len,fun c hc=>by
 rcases mem_or_eq_of_mem_set hc with h1 | h1
 ·exact h.sz c h1
 ·rw [h1];exact hv⟩
theorem QU(a b:RP){N:Nat}(ha:qp a)(hb:qp b)(sa:Bd LL s N (a.map gv))(sb:Bd LL s' N (b.map gv))(hB:s+N*(s'+N+1)+s'+N+N+10<1099511627774) :
  aj 217 [Pg a,Pg b] (if mi b = []then .cW [Po [],ae 2]else exR (exact (mi a) (mi b))):=by
 have hA:Bd LL s N (mi a):=sa.cut;have NH:Bd LL s' N (mi b):=sb.cut;have ca:Cn (mi a):=Cn.cut _;have cb:Cn (mi b):=Cn.cut _;have na:=gi a ha;have nb:=gi b hb;rw [show aK (a.map gv)=mi a from rfl]at na;rw [show aK (b.map gv)=mi b from rfl]at nb;apply bL [(0,Pg a),(1,Pg b)] Tryz.func217;generalize mi a=x,mi b=y at *;apply aR [0,1];apply kh na nb;apply bM [0,1]
 apply cS [0,1,17]<;>intro h
 ·have h:y = []:=by simp at h;exact h
  rw [if_pos h];apply aR [4,5];apply W.ret;simp [go];rfl
 have hy:y ≠ []:=by simp at h;exact h
 clear h;rw [if_neg hy];have KL:0<y.length:=length_pos_iff.2 hy;have U0:=hA.len;have hNy:=NH.len;have hsy:=fU NH;have hly:=cZ cb KL;have hL:=kv (PB.of NH aa aa) cb;have hDy:=j0 y aa;have hkN:jn x y<=N:=by unfold jn;omega
 generalize Nw:s'+N+1=d at *;have U1:∀j,j<=N->(N-j)*d<=N*d:=fun j _=>Nat.mul_le_mul_right _ aa;have hkk:(if (0:Int)<(x.length:Int)-(y.length:Int)+1 then(x.length:Int)-(y.length:Int)+1 else 0)=(jn x y:Int):=by unfold jn;split<;>omega
 apply W.skip;apply fj hkk [0,1,6];refine W.row (id:=25) (emap ie (replicate (jn x y) 0)) (by simp;exact⟨rfl,rfl,rfl⟩) (rC _) ?_;apply dU [0,1,6,7];obtain⟨R0,Ap⟩:∃R0,R0=U5 y (jn x y) (replicate (jn x y) 0) x:=⟨_,rfl⟩
 have hex:exact x y=exF R0:=by rw [Ap];rfl
 rw [hex];clear hex;generalize wG:jn x y=k0 at *
 refine W.aO (fun j σ=>∃(v6:Nat) (z r:List Int),aQ σ [(0,Po r),(1,Po y),(6, .own 25 v6 0 k0),(7,ae ((j:Int)-1))] fun rows clk =>
  rows 25=some ⟨v6,38,2,emap ie z⟩∧z.length=k0∧j<=k0∧U5 y j z r=R0∧Bd LL (s+(N-j)*d) (N+N) z∧Bd LL (s+(N-j)*d) (N+N) r∧Cn r) k0 ?_ ?_
 ·exact⟨_, .refl,_,replicate k0 0,x,_,_,rfl,av,av,aa,Ap.symm,⟨by simp;omega,fun c hc=>by rw [(mem_replicate.1 hc).2,jV];omega⟩,hA.mono aa aa,ca⟩
 rintro j _ ⟨v6,z,r,rows,clk,rfl,U6,hz,hj,x9,bz,br,cr⟩
 apply cS [0,1,6,7,30]<;>intro h
 ·have ZP:0<j:=by simp at h;omega
  obtain⟨i,rfl⟩:∃i,j=i+1:=⟨j-1,aa⟩
  clear h;have ei:((i+1:Nat):Int)-1=i:=aa;rw [ei];have ZQ:=U1 (i+1) aa;have CC:=U1 i aa;have hT:s+(N-i)*d=s+(N-(i+1))*d+s'+N+1:=by rw [show N-i=(N-(i+1))+1 by omega,Nat.add_mul,Nat.one_mul];omega
  have hDr:=j0 r (by have:=br.len;omega);have hLr:=kv (PB.of br aa aa) cr;have hlr:=fU br;rw [U5]at x9;apply W.skip
  refine W.dh (fun σ=>∃(z r:List Int),aQ σ [(0,Po r),(1,Po y),(6, .own 25 v6 0 k0),(7,ae i)] fun rows clk =>
   rows 25=some ⟨v6,38,2,emap ie z⟩∧z.length=k0∧U5 y i z r=R0∧Bd LL (s+(N-i)*d) (N+N) z∧Bd LL (s+(N-i)*d) (N+N) r∧Cn r) ?_ ?_
  ·
   apply W.seq;apply kh hDr hDy;apply bM [0,1,6,7,39]
   by_cases hlen:r.length<y.length+i
   ·rw [if_pos hlen]at x9
    apply (dI)<;>intro h
    ·apply (ey);exact⟨_,ak _ [0,1,6,7],z,r,_,_,rfl,U6,hz,x9,bz.mono aa aa,br.mono aa aa,cr⟩
    ·exfalso;simp at h;omega
   rw [if_neg hlen]at x9
   apply (dI)<;>intro h
   ·exfalso;simp at h;omega
   clear h;have hE:=Fc (v:=lead r) (c:=lead y) aa aa hly;apply W.skip
   by_cases UQ:lead r%lead y=0
   ·rw [if_pos UQ]at hE x9;have hts:sz LL (lead r/lead y)<=s+(N-(i+1))*d:=Nat.le_trans (cY fV (Int.natAbs_ediv_le_natAbs _ _)) hlr;have bs:=Bd.qo hts i;have bm:=bs.bN fV NH;have b2:Bd LL (s+(N-i)*d) (N+N) (fC r (bN (qo i (lead r/lead y)) y)):=(Bd.fC fV (br.mono (s':=s+(N-(i+1))*d+s'+N) (n':=N+N) aa aa) (bm.mono aa aa)).mono aa aa;have f4:=xf bs NH aa;have f5:=Dz (PB.of br aa aa) (PB.of bm aa aa);have cr2:Cn (fC r (bN (qo i (lead r/lead y)) y)):=Cn.fC _ _;have bz2:=Bd.set (i:=i) (bz.mono (s':=s+(N-i)*d) (n':=N+N) aa aa) (Nat.le_trans hts aa);generalize bE:fC r (bN (qo i (lead r/lead y)) y)=r2 at *;generalize bN (qo i (lead r/lead y)) y=pm at *;generalize lead r/lead y=tt at *;have Cz:=rI i tt;have agm:(qo i tt).length=i+1:=(by simp [qo]);have g9:=bG agm;generalize lead r=lr,lead y=ly at *;apply lE hLr;apply eO hL hE;apply bM [0,1,6,7,8,9]
    apply cS [0,1,6,7,8,49]<;>intro h
    ·cases h
    apply W.skip;apply oD U6 hz [0,1,6,7,8];have e9:((i:Int)+1).toNat=i+1:=aa;apply W.sr;simp (disch:=omega) [gw,e9];apply c9 [0,1,6,7,8,10];refine W.row (id:=56) (emap ie (replicate (i+1) 0)) (by simp;exact⟨rfl,rfl,rfl⟩) (rC _) ?_;apply fj Cz [0,1,6,7,10];refine W.freeze 56 av fun K hK=>?_;simp [g9];refine hK _ ?_;clear hK K;refine AE f4 fun K hK=>?_;apply my f5;exact hK _ ⟨_,ak _ [0,1,6,7],z.set i tt,r2,_,_,rfl,av,by simp [hz],x9,bz2,b2,cr2⟩
   ·rw [if_neg UQ]at hE x9;subst x9;apply lE hLr;apply eO hL hE;apply bM [0,1,6,7,8,9]
    apply cS [0,1,6,7,8,49]<;>intro h
    ·apply aR [4,5];apply W.ret;simp [go,exR,exF];rfl
    ·cases h
  rintro _ ⟨z,r,rows,clk,rfl,U6,hz,x9,bz,br,cr⟩;refine bB fun K hK=>?_;refine hK _ ⟨i,_,ak _ [0,1,6,7],aa,v6,z,r,_,_,rfl,by simp [U6],hz,aa,x9,bz,br,cr⟩
 ·have ZP:j=0:=by simp at h;omega
  subst ZP;simp only [U5]at x9;rw [<-x9];have NJ:=U1 0 aa;have hzn:=dW (PB.of bz aa aa);have hzz:=bG hz;apply (ey);apply W.seq;apply aR [6,68];cases r with
  | nil =>
   apply (dI)<;>intro h
   ·exfalso;simp at h
   apply W.skip;apply lG U6 hzz hzn;apply bM [4,5];apply W.ret;simp [go,exR,exF]
  | cons c r =>
   apply (dI)<;>intro h
   ·apply aR [4,5];apply W.ret;simp [go,exR,exF];rfl
   ·exfalso;simp at h
theorem Bl{d:Nat}(h:∀c∈x,(d:Int)∣c):d∣bK x:=by
 have key:∀(l:List Int) (g:Nat),d∣g->(∀c∈l,(d:Int)∣c)->d∣l.foldl (fun g c=>Nat.gcd g c.natAbs) g:=by
  intro l
  induction l with
  | nil=>intro g hg _;exact hg
  | cons c l ih =>
   intro g hg hl;rw [foldl_cons];exact ih _ (Nat.dvd_gcd hg (Int.ofNat_dvd_left.1 (hl c av))) fun v hv=>hl v (by simp [hv])
 exact key x 0 (Nat.dvd_zero d) h
theorem ze(h:∀c∈x,g∣c):(x.map (pk g)).map (· * g)=x:=by rw [map_map];refine(map_congr_left fun v hv=>?_).trans (map_id _);have h1:v%g=0:=Int.emod_eq_zero_of_dvd (h v hv);simp only [Function.comp_apply,pk,id_eq];rw [if_pos h1];exact Int.ediv_mul_cancel (h v hv)
theorem xl(hg:g≠0)(h:y.map (· * g)=x)(e:bK x=g.natAbs):bK y=1:=by have:=kz g y;rw [h,e]at this;exact Nat.eq_of_mul_eq_mul_right (show 0<g.natAbs by omega) aa
theorem dM(t:Int)(g:Int)(x:List Int):V t (x.map (· * g))=V t x*g:=by have:=gO (t:=t) g id x;simp only [id_eq,map_id_fun]at this;exact this
theorem U7(cx:Cn x)(cy:Cn y)(hx:x ≠ [])(hy:y ≠ []):bK (bN x y)=bK x*bK y:=by
 have gx:=cO cx hx;have gy:=cO cy hy;have hp:bK (bN x y)≠0:=cO (Cn.bN _ _) fun h=>by have:=jC cx cy (length_pos_iff.2 hx) (length_pos_iff.2 hy);rw [h]at this;have h1:=length_pos_iff.2 hx;have h2:=length_pos_iff.2 hy;simp only [length_nil]at this;omega
 obtain⟨x',z7⟩:∃x':List Int,x'.map (· * (bK x:Int))=x:=⟨_,ze (iB x)⟩
 obtain⟨y',tz⟩:∃y':List Int,y'.map (· * (bK y:Int))=y:=⟨_,ze (iB y)⟩
 have px:=xl aa z7 aa;have py:=xl aa tz aa;have e:bN x y=(bN x' y').map (· * ((bK x:Int)*bK y)):=by rw [<-sH (Cn.bN _ _) (Int.mul_ne_zero aa aa)];refine Cn.ext (Cn.bN _ _) (Cn.aY _ _) fun t=>?_;have h1:=dM t (bK x) x';have h2:=dM t (bK y) y';rw [z7]at h1;rw [tz]at h2;rw [dq,cM,dq,h1,h2];grind
 rw [e,kz]at hp;rw [e,kz,Int.natAbs_mul];have hd:0<bK (bN x' y'):=Nat.pos_of_mul_pos_right (Nat.pos_of_ne_zero hp);have hD:=M9 _ (bK (bN x' y')) x' y' (Nat.le_refl _) hd (Dv.of (iB _)) (fun d _ hy=>Nat.dvd_one.1 (py▸Bl hy.mem));have h1:bK (bN x' y')=1:=Nat.dvd_one.1 (px▸Bl hD.mem);rw [h1,Nat.one_mul];simp
def kA(x:List Int):Int:=if lead x<0 then -(bK x:Int)else bK x
def rJ(x:List Int):List Int:=aK (x.map (pk (kA x)))
theorem nG(x:List Int):(kA x).natAbs=bK x:=by unfold kA;split<;>omega
theorem Fe(x:List Int):∀c∈x,kA x∣c:=fun c hc=>by
 have:=iB x c hc
 unfold kA;split
 ·exact Int.neg_dvd.2 this
 ·exact this
theorem Ff(cx:Cn x)(hx:x ≠ []):(rJ x).map (· * kA x)=x:=by have gx:=cO cx hx;have h0:=nG x;rw [<-sH (show Cn (rJ x)from Cn.cut _) (show kA x≠0 by omega)];refine Cn.ext (Cn.aY _ _) cx fun t=>?_;rw [cM,rJ,c8,<-dM,ze (Fe x)]
theorem QV(cx:Cn x)(hx:x ≠ []):aY (rJ x) (kA x)=x:=by have gx:=cO cx hx;have h0:=nG x;rw [sH (show Cn (rJ x)from Cn.cut _) (show kA x≠0 by omega)];exact Ff cx hx
theorem ZU(cx:Cn x)(hx:x ≠ []):bK (rJ x)=1:=by have gx:=cO cx hx;have h0:=nG x;exact xl aa (Ff cx hx) h0.symm
theorem U8(cx:Cn x)(hx:x ≠ []):0<lead (rJ x):=by
 have gx:=cO cx hx;have h:=Ff cx hx;have hl:(rJ x).length=x.length:=by rw [<-congrArg List.length h];simp
 have n7:=length_pos_iff.2 hx;have h1:lead x=lead (rJ x)*kA x:=by rw [lead,lead,hl,<-jo,h]
 have km:=cZ (x:=rJ x) (Cn.cut _) aa;have hg:(0:Int)<bK x:=aa;unfold kA at h1
 rcases Int.lt_trichotomy (lead (rJ x)) 0 with h2 | h2 | h2
 ·exfalso
  split at h1
  ·rename_i h3;have:=Int.mul_pos (show (0:Int) < -lead (rJ x)by omega) hg;rw [Int.mul_neg,<-Int.neg_mul]at h1;omega
  ·rename_i h3;have:=Int.mul_pos (show (0:Int) < -lead (rJ x)by omega) hg;rw [Int.neg_mul]at this;omega
 ·exact absurd h2 km
 ·exact h2
theorem tK(a:RP)(ha:qp a)(sa:Bd LL s n (a.map gv))(hs:s<1099511627774)(hn:n<1099511627774) :
  aj 137 [Pg a] (.cW [I (kA (mi a)),Po (rJ (mi a))]):=by
 have hA:Bd LL s n (mi a):=sa.cut;have ca:Cn (mi a):=Cn.cut _;have na:=gi a ha;rw [show aK (a.map gv)=mi a from rfl]at na;apply bL [(0,Pg a)] Tryz.func137;generalize mi a=x at *;apply fk [0,2] na [0,2]
 apply cS [0,2,9]<;>intro h
 ·have h:x = []:=by simp at h;exact h
  subst h;rw [show kA ([]:List Int)=0 by decide,show rJ ([]:List Int) = []from rfl];apply aR [2,3];apply W.ret;simp [go];exact⟨rfl,rfl⟩
 have hx:x ≠ []:=by simp at h;exact h
 clear h;have n7:=length_pos_iff.2 hx;have gx:=cO ca hx;have Pk:=nG x;have hC:=vM x (PD.of hA hs hn);have hL:=kv (PB.of hA aa aa) ca;have hgs:=NI (s:=s) hA.sz ca hx
 have z6:sz LL (kA x)<=s:=by
  unfold kA;split
  ·rw [n4];exact hgs
  ·exact hgs
 have hO:=HY x (kA x) (PD.of hA hs hn) aa aa;rw [show aK (x.map (pk (kA x)))=rJ x from rfl]at hO;have hN:=Uh (x:=(bK x:Int)) (by show sz LL _<_;omega);apply rf hC [0,2,4]
 refine W.fR (fun σ=>aQ σ [(0,Po x),(2, .ptr 2 0 0 0),(4, .ptr 4 1 0 0)] fun rows clk=>rows 2=some ⟨0,38,2,[[.bool false, .nil]]⟩∧rows 4=some ⟨1,38,2,[ie (kA x)]⟩) ?_ ?_
 ·refine W.dx (fun σ=>aQ σ [(0,Po x),(2, .ptr 2 0 0 0),(4, .ptr 4 1 0 0),(16, .bool (decide (lead x<0)))] fun rows clk=>rows 2=some ⟨0,38,2,[[.bool false, .nil]]⟩∧rows 4=some ⟨1,38,2,[ie (bK x)]⟩) (fun K hK=>?_) ?_
  ·apply my hL;refine hK _ _ (ak _ [0,2,4,16]) ⟨_,_,rfl,?_,?_⟩<;>simp [ie]
  rintro _ ⟨rows,clk,rfl,bE,cN⟩
  refine W.T0 (lead x<0) rfl (fun h=>?_) (fun h=>?_)
  ·rw [kA,if_pos h];refine AD cN hN fun K hK=>?_;apply dB cN;exact hK _ ⟨_,ak _ [0,2,4],_,_,rfl,by simp [bE],av⟩
  ·rw [kA,if_neg h];apply W.skip;exact⟨_,ak _ [0,2,4],_,_,rfl,bE,cN⟩
 rintro _ ⟨rows,clk,rfl,bE,cN⟩;generalize kA x=c,rJ x=p at *;apply W.sd;apply iI cN hO;exact AB bE cN [2,3]
abbrev qd(x:List Int)(D:Int):List Rat:=x.map fun v=>dw v D
theorem fA(h:D≠0):dw v D=(v:Rat)/(D:Rat):=by rw [dw,if_neg h,Rat.divInt_eq_div]
theorem gH(h:D≠0):(D:Rat)≠0:=fun h2=>h (by exact_mod_cast h2)
theorem vN(h:D≠0):dw 0 D=0:=by rw [fA h];simp [Rat.div_def]
theorem ye(h:D≠0):dw v D=0↔v=0:=by
 constructor
 ·intro h2;rw [fA h]at h2;have h3:=gH h;have:(v:Rat)=0:=by have h4:(v:Rat)/(D:Rat)*D=0:=(by rw [h2];grind);rw [Rat.div_mul_cancel h3]at h4;exact h4
  exact_mod_cast this
 ·rintro rfl;exact vN h
theorem NK(h:D≠0)(hl:l≠0):dw (v*l) (D*l)=dw v D:=by rw [fA h,fA (Int.mul_ne_zero h hl),Rat.intCast_mul,Rat.intCast_mul];have h1:=gH h;have h2:=gH hl;grind
theorem ZV(h:D≠0):dw v D+dw w D=dw (v+w) D:=by rw [fA h,fA h,fA h,Rat.intCast_add];have h1:=gH h;grind
theorem NL(h:D≠0):dw v D*(-1)=dw (-v) D:=by rw [fA h,fA h,Rat.intCast_neg];have h1:=gH h;grind
theorem U9(h:D≠0):(w:Rat)*dw v D=dw (w*v) D:=by rw [fA h,fA h,Rat.intCast_mul];have h1:=gH h;grind
theorem ZW(h:D≠0)(hl:l≠0):dw v D/(l:Rat)=dw v (D*l):=by rw [fA h,fA (Int.mul_ne_zero h hl),Rat.intCast_mul];have h1:=gH h;have h2:=gH hl;grind
theorem vO{D:Int}(h:D≠0):∀x:List Int,nk (qd x D)=qd (aK x) D
 | []=>rfl
 | a::x=>by
  have ih:=vO h x;simp only [qd,map_cons]at ih |-;rw [nk,ih,aK]
  by_cases h1:aK x = []∧a=0
  ·simp [h1,vN h]
  ·rw [if_neg h1,if_neg (by simpa [ye h]using h1)];simp
theorem Fg(h:D≠0)(x:List Int)(k:Nat):nth (qd x D) k=dw (nth x k) D:=yY (f:=fun v=>dw v D) (vN h) x k
theorem ZY(h:D≠0)(x y:List Int):UD (qd x D) (qd y D)=qd (iw x y) D:=by rw [UD,iw,<-vO h];congr 1;simp only [qd,length_map,map_map];congr 1;funext k;simp only [Function.comp_apply];rw [show nth (map (fun v=>dw v D) x) k=_ from Fg h x k,show nth (map (fun v=>dw v D) y) k=_ from Fg h y k,ZV h]
theorem ZZ(h:D≠0)(x:List Int):jY (qd x D) (-1)=qd (gL x) D:=by rw [jY,gL,<-vO h];congr 1;simp only [qd,map_map];congr 1;funext k;simp only [Function.comp_apply];exact NL h
theorem QW(h:D≠0)(y:List Int)(v:Int):jY (qs y) (dw v D)=qd (aY y v) D:=by rw [jY,aY,<-vO h];congr 1;simp only [qd,qs,map_map];congr 1;funext k;simp only [Function.comp_apply];exact U9 h
theorem La(h:D≠0)(hl:l≠0)(x:List Int):qd (x.map (· * l)) (D*l)=qd x D:=by simp only [qd,map_map];congr 1;funext k;simp only [Function.comp_apply];exact NK h hl
theorem Fh(x:List Int):qd x 1=qs x:=by simp only [qd,qs,kO]
theorem ud(h:D≠0)(hv:sz 2 v<=k)(hD:sz 2 D<=k):ZR k (dw v D):=by
 refine⟨Nat.le_trans (cY ar ?_) hv,Nat.le_trans (cY ar ?_) hD⟩
 ·rw [o9 _ _ h];refine Nat.le_trans (Int.natAbs_ediv_le_natAbs _ _) ?_;split<;>simp
 ·rw [pg _ _ h];refine Nat.le_trans (Int.natAbs_ediv_le_natAbs _ _) ?_;split<;>simp
theorem Lb(h:D≠0)(hx:Bd 2 k n x)(hD:sz 2 D<=k)(hk:k<=YY)(hn:n<1099511627776):Qy (qd x D):=⟨fun q hq=>by simp only [mem_map]at hq;obtain⟨v,hv,rfl⟩:=hq;exact ud h (Nat.le_trans (hx.sz v hv) hk) (Nat.le_trans hD hk),by have:=hx.len;simp;omega⟩
structure DS where
 Q:List Int
 r:List Int
 D:Int
variable {σ:DS}
def dst(y:List Int)(σ:DS):DS:=⟨(σ.Q.map (· * lead y)).set (σ.r.length-y.length) (lead σ.r),wJ y (lead y) (lead σ.r) (σ.r.length-y.length) σ.r,σ.D*lead y⟩
def QX(y:List Int):Nat->DS->DS
 | 0,σ=>σ
 | n+1,σ=>if σ.r.length<y.length then σ else QX y n (dst y σ)
def Va(x y:List Int):DS:=QX y (x.length+1) ⟨replicate (jn x y) 0,x,1⟩
theorem Fi(hy:0<y.length)(h:y.length<=σ.r.length):(dst y σ).r.length<σ.r.length:=by have h1:=y6 (b:=y) (r:=σ.r) (i:=σ.r.length-y.length) hy aa;rw [show vk y σ.r (σ.r.length-y.length)=lead σ.r from by rw [vk,if_pos aa]]at h1;show(wJ y (lead y) (lead σ.r) (σ.r.length-y.length) σ.r).length<_;omega
theorem Z0(h:σ.r.length<y.length):∀n,QX y n σ=σ
 | 0=>rfl
 | n+1=>by rw [QX,if_pos h]
structure ue(x y:List Int)(σ:DS):Prop where
 v:∀t,σ.D*V t x=V t σ.Q*V t y+V t σ.r
 z:∀j,j+y.length<=σ.r.length->nth σ.Q j=0
 c:Cn σ.r
 d:σ.D≠0
 q:σ.r.length+1<=σ.Q.length+y.length∨σ.r.length<y.length
theorem ue.step(cy:Cn y)(hy:0<y.length)(h:y.length<=σ.r.length)(hI:ue x y σ):ue x y (dst y σ):=by
 have hl:=cZ cy hy;have bZ:=Fi hy h;have hq:=hI.q.resolve_right aa;have hk:σ.r.length-y.length<(σ.Q.map (· * lead y)).length:=by simp;omega
 have h1:=y6 (b:=y) (r:=σ.r) (i:=σ.r.length-y.length) hy aa;rw [show vk y σ.r (σ.r.length-y.length)=lead σ.r from by rw [vk,if_pos aa]]at h1
 refine⟨fun t=>?_,fun j hj=>?_,Cn.fC _ _,Int.mul_ne_zero hI.d hl,?_⟩
 ·have h2:=hI.v t;have h3:=Dg (b:=t) (x:=lead σ.r) hk;have h4:nth (σ.Q.map (· * lead y)) (σ.r.length-y.length)=0:=by rw [jo,hI.z _ aa];simp
  show σ.D*lead y*V t x=V t ((σ.Q.map (· * lead y)).set (σ.r.length-y.length) (lead σ.r))*V t y+V t (wJ y (lead y) (lead σ.r) (σ.r.length-y.length) σ.r);rw [h3,h4,dM,wJ,iT,dq,nD,cM];have h5:σ.D*lead y*V t x=lead y*(σ.D*V t x):=aG;rw [h5,h2];grind
 ·have hj:j+y.length<=(wJ y (lead y) (lead σ.r) (σ.r.length-y.length) σ.r).length:=hj;show nth ((σ.Q.map (· * lead y)).set (σ.r.length-y.length) (lead σ.r)) j=0;rw [gG aa,jo,hI.z _ aa];simp
 ·left;have:(dst y σ).Q.length=σ.Q.length:=by simp [dst]
  omega
theorem ue.QX{x y:List Int}(cy:Cn y)(hy:0<y.length):∀(n:Nat) (σ:DS),σ.r.length<n->ue x y σ->ue x y (QX y n σ)∧(Proofs.YtiobceocpabjdaaGreat.QX y n σ).r.length<y.length
 | 0,σ,h,_=>by omega
 | n+1,σ,h,hI=>by
  rw [Proofs.YtiobceocpabjdaaGreat.QX]
  split
  ·rename_i h1;exact⟨hI,h1⟩
  ·rename_i h1;exact ue.QX cy hy n _ (by have:=Fi (σ:=σ) hy aa;omega) (hI.step cy hy aa)
theorem ue.start(cx:Cn x):ue x y ⟨replicate (jn x y) 0,x,1⟩:=by
 refine⟨fun t=>?_,fun j hj=>?_,cx,show(1:Int)≠0 by decide,?_⟩
 ·simp [pW]
 ·rcases Nat.lt_or_ge j (jn x y)with h | h
  ·rw [bJ (au h)];simp
  ·rw [ir (au h)];rfl
 ·simp only [jn,length_replicate];omega
theorem Z2(cx:Cn x)(cy:Cn y)(hy:0<y.length):ue x y (Va x y)∧(Va x y).r.length<y.length:=ue.QX cy hy _ _ (Nat.lt_succ_self _) (ue.start cx)
@[simp] theorem amZ{l:List Rat}{q:Rat}:fQ (emap re l) i 0 [aw ay (aI DD q.num.natAbs), .bool (decide (q.num<0)),aw ay (aI DD q.den), .bool false]=emap re (l.set i q):=y7 (n:=4) (fun _=>rfl)
theorem Bm(x:List Int):emap re (qs x)=emap ri x:=by simp only [emap,qs,map_map,Function.comp_def,fP]
theorem Vb(a b n:List Rat)(ha:Qy a)(hb:Qy b)(hn:jY b (-1)=n)(UB:Qy n):aj 266 [PP a,PP b] (PP (UD a n)):=by have h1:=HH b hb;rw [hn]at h1;have h2:=UE a n ha UB;apply bL [(0,PP a),(1,PP b)] Tryz.func266;apply aR [0,1];apply kh h1 h2;exact eK [4]
def Gv(l:List Rat):Int:=l.foldl (fun d q=>(d*q.den).tdiv (Int.gcd d q.den)) 1
def NO(d:Int)(l:List Rat):Int:=l.foldl (fun (g:Int) q=>(Int.gcd g ((q.num*d).tdiv q.den):Int)) 0
theorem Vc{l:List Rat}(h:i<l.length):Gv (l.take (i+1))=(Gv (l.take i)*(nth l i).den).tdiv (Int.gcd (Gv (l.take i)) (nth l i).den):=by unfold Gv;rw [bt h,foldl_append];rfl
theorem Vd{l:List Rat}{d:Int}(h:i<l.length):NO d (l.take (i+1))=(Int.gcd (NO d (l.take i)) (((nth l i).num*d).tdiv (nth l i).den):Int):=by unfold NO;rw [bt h,foldl_append];rfl
theorem Ve(q:Rat):RI (q.den:Int) = .ag [aw ay (aI DD q.den), .bool false]:=by simp [show ¬((q.den:Int)<0)by omega]
def Lc(l:List Rat):Rat:=if (nth l (l.length-1)).num<0 then -(dw (NO (Gv l) l) (Gv l))else dw (NO (Gv l) l) (Gv l)
def qpr(l:List Rat):List Rat:=jY l (1/Lc l)
theorem rK(l:List Rat)(hk:k<=YY)(XK:1<=k)(hl:∀q∈l,ZR k q)(yT:l.length<1099511627776)(h0:l ≠ [])
  (hd:∀i,sz 2 (Gv (l.take i))<=k) (E5:∀i,0<Gv (l.take i)) (hg:∀i,sz 2 (NO (Gv l) (l.take i))<=k)
  (hc:ZR YY (Lc l)) (pY:Lc l≠0) (qQ:ZR YY (1/Lc l)) :
  aj 155 [PP l] (.cW [RR (Lc l),PP (qpr l)]):=by
 have hkY:k<=137438953472:=hk;have uI:0<l.length:=length_pos_iff.2 h0;apply bL [(0,PP l)] Tryz.func155;apply aR [0,2]
 apply cS [0,2,11]<;>intro h
 ·exfalso;simp at h;exact h0 h
 apply W.skip;apply (oC);refine aU (nE 1 ar ar) ?_;apply bM [0,2,4];apply dU [0,2,4,15,16]
 refine W.aO (fun n σ=>∃(i:Nat) (d:Int),aQ σ [(0,PP l),(2, .ptr 2 0 0 0),(4, .ptr 4 1 0 0),(15,ae l.length),(16,ae i)] fun rows clk =>
  rows 2=some ⟨0,31,4,[[.nil, .bool false, .nil, .bool false]]⟩∧rows 4=some ⟨1,29,2,[[aw ay (aI DD d.natAbs), .bool (decide (d<0))]]⟩∧n=l.length-i∧i<=l.length∧d=Gv (l.take i)) l.length ?_ ?_
 ·exact⟨_, .refl,0,1,_,_,rfl,av,av,aa,aa,by simp [Gv]⟩
 rintro n _ ⟨i,d,rows,clk,rfl,bE,cN,hn,hi,UQ⟩
 apply ef [0,2,4,15,16,17]<;>intro h
 ·have hi:i<l.length:=by simp at h;omega
  have hq:=hl _ (bo hi);have hdi:=hd i;have hdp:=E5 i;have hs:=Vc hi;rw [<-UQ]at hs hdi hdp;have hsn:=hd (i+1);have m1:=eY d (nth l i).den (by simp only [Z];omega) (by have:=hq.d;simp only [Z];omega);have m2:=A4 d (nth l i).den (by simp only [Y];omega) (by have:=hq.d;simp only [Y];omega);have zm:=ct (b:=2) ar hdi hq.d;have hgp:0<Int.gcd d (nth l i).den:=Int.gcd_pos_of_ne_zero_left _ aa;have zg:Y (Int.gcd d (nth l i).den:Int):=AZ (y:=d) (by simp only [Y];omega) (by have:=Int.le_of_dvd hdp (Int.gcd_dvd_left d ((nth l i).den:Int));omega);have m3:=vE (d*(nth l i).den) (Int.gcd d (nth l i).den) aa (by simp only [Y];omega) zg;rw [<-hs]at m3;rw [Ve]at m1 m2;generalize (Int.gcd d (nth l i).den:Int)=gg,d*((nth l i).den:Int)=dd at *;generalize GU:Gv (l.take (i+1))=d2 at *;generalize QY:nth l i=q at *;apply (ft);apply fj QY [0,2,4,5,15,16];refine W.Dd fun K hK=>?_;apply iS cN QY m1;apply iS cN QY m2;apply iS cN QY m3;apply fN cN QY;refine aM (by refine⟨?_,?_⟩<;>kernel_rfl) ?_;apply (cp);refine W.lw [0,2,4,15,16] hK ?_;clear hK K;simp;refine bB fun K hK=>?_;refine hK _ ⟨l.length-(i+1),_,ak _ [0,2,4,15,16],aa,i+1,d2,_,_,rfl,by simp [bE],av,aa,aa,GU.symm⟩
 have hi:i=l.length:=by simp at h;omega
 subst hi;rw [take_length]at UQ;have Tc:=hd l.length;have hdp:=E5 l.length;rw [take_length,<-UQ]at Tc hdp;rw [<-UQ]at hg;have hqc:Lc l=if (nth l (l.length-1)).num<0 then -(dw (NO d l) d)else dw (NO d l) d:=by rw [UQ];rfl
 apply qZ [0,2,4,6];refine W.row (id:=6) (els:=[[.nil, .bool false]]) [[aw ay (aI DD 0), .bool false]] (by simp;first | exact⟨rfl,rfl,rfl⟩ | exact⟨rfl,rfl,rfl,rfl⟩) ⟨⟨.inr ⟨rfl,rfl⟩, .inl rfl,trivial⟩,trivial⟩ ?_;apply dU [0,2,4,6,36,37];clear UQ
 refine W.aO (fun n σ=>∃(i v6:Nat) (g:Int),aQ σ [(0,PP l),(2, .ptr 2 0 0 0),(4, .ptr 4 1 0 0),(6, .ptr 6 v6 0 0),(36,ae l.length),(37,ae i)] fun rows clk =>
  rows 2=some ⟨0,31,4,[[.nil, .bool false, .nil, .bool false]]⟩∧rows 4=some ⟨1,29,2,[[aw ay (aI DD d.natAbs), .bool (decide (d<0))]]⟩ ∧
  rows 6=some ⟨v6,29,2,[[aw ay (aI DD g.natAbs), .bool (decide (g<0))]]⟩∧n=l.length-i∧i<=l.length∧g=NO d (l.take i)) l.length ?_ ?_
 ·exact⟨_, .refl,0,_,0,_,_,rfl,by simp [bE],by simp [cN],av,aa,aa,by simp [NO]⟩
 clear bE cN rows clk;rintro n _ ⟨i,v6,g,rows,clk,rfl,bE,cN,gu,hn,hi,hgv⟩
 apply ef [0,2,4,6,36,37,38]<;>intro h
 ·have hi:i<l.length:=by simp at h;omega
  have hq:=hl _ (bo hi);have hgi:=hg i;have hs:=Vd (d:=d) hi;rw [<-hgv]at hs hgi;have m1:=eY (nth l i).num d (by have:=hq.n;simp only [Z];omega) (by simp only [Z];omega);have zm:=ct (b:=2) ar hq.n Tc;have m2:=vE ((nth l i).num*d) (nth l i).den (by have:=(nth l i).den_nz;omega) (by simp only [Y];omega) (by have:=hq.d;simp only [Y];omega);have zq:Y (((nth l i).num*d).tdiv (nth l i).den):=AZ (y:=(nth l i).num*d) (by simp only [Y];omega) (by rw [Int.natAbs_tdiv];exact Nat.div_le_self _ _);have m3:=A4 g (((nth l i).num*d).tdiv (nth l i).den) (by simp only [Y];omega) zq;rw [<-hs]at m3;rw [Ve]at m2;generalize ((nth l i).num*d).tdiv (nth l i).den=nq at *;generalize (nth l i).num*d=nd at *;generalize nW:NO d (l.take (i+1))=g2 at *;generalize QY:nth l i=q at *;apply (ft);apply fj QY [0,2,4,6,7,36,37];refine W.Dd fun K hK=>?_;apply ra cN gu QY m1;apply ra cN gu QY m2;apply ra cN gu QY m3;apply qk cN gu QY;refine aM bX ?_;apply (cp);refine W.lw [0,2,4,6,36,37] hK ?_;clear hK K;simp;refine bB fun K hK=>?_;refine hK _ ⟨l.length-(i+1),_,ak _ [0,2,4,6,36,37],aa,i+1,v6,g2,_,_,rfl,by simp [bE],by simp [cN],av,aa,aa,nW.symm⟩
 have hi:i=l.length:=by simp at h;omega
 subst hi;rw [take_length]at hgv;have hgl:=hg l.length;rw [take_length]at hgl;rw [<-hgv]at hgl hqc;have hMk:=jX g d (by simp only [Y];omega) (by simp only [Y];omega);have hNg:=A6 (dw g d);have hQ:=A8 1 (Lc l) ⟨by show sz 2 1<=YY;exact Nat.le_trans (dp (k:=1) ar ar) ar,by show sz 2 1<=YY;exact Nat.le_trans (dp (k:=1) ar ar) ar⟩ hc pY;have hOf:=lY 1 1 ar ar;rw [kO,show(((1:Int)):Rat)=1 by simp]at hOf;have hSc:=ph l (1/Lc l) ⟨fun q hq=>⟨Nat.le_trans (hl q hq).n hk,Nat.le_trans (hl q hq).d hk⟩,yT⟩ qQ;rw [show jY l (1/Lc l)=qpr l from rfl]at hSc;have e1:((l.length:Int)-1).toNat=l.length-1:=aa;generalize qpr l=pr at *;generalize i3:(1:Rat)=one at *;generalize one/Lc l=ic at *;generalize Lc l=cc at *;generalize hqm:dw g d=c0 at *;generalize QY:nth l (l.length-1)=q at *;apply (iq);apply iS cN gu hMk;apply bM [0,2,8]
 refine W.fR (fun σ=>∃(v8:Nat),aQ σ [(0,PP l),(2, .ptr 2 0 0 0),(8, .ptr 8 v8 0 0)] fun rows clk=>rows 2=some ⟨0,31,4,[[.nil, .bool false, .nil, .bool false]]⟩∧rows 8=some ⟨v8,31,4,[re cc]⟩) ?_ ?_
 ·apply W.sr;simp (disch:=omega) [gw,e1,QY];apply c9 [0,2,8,66]
  refine W.T0 (q.num<0) rfl (fun h=>?_) (fun h=>?_)
  ·rw [if_pos h]at hqc;rw [<-hqc]at hNg;refine u9 hNg fun K hK=>?_;exact hK _ ⟨_,ak _ [0,2,8],_,_,_,rfl,by simp [bE],av⟩
  ·rw [if_neg h]at hqc;apply W.skip;exact⟨_,ak _ [0,2,8],_,_,_,rfl,by simp [bE],by simp [hqc]⟩
 clear bE cN gu rows clk;rintro _ ⟨v8,rows,clk,rfl,bE,mI⟩;apply W.sd;apply iI mI hOf;apply iI mI hQ;apply iI mI hSc;exact AB bE mI [2,3]
theorem NP(x:List Int)(hx:∀c∈x,Z c)(hl:x.length<1099511627776):aj 100 [PI x] (Po x):=by
 apply bL [(0,PI x)] Tryz.func100;apply eQ [0] [0,3];refine W.nil 3 3 38 2 av ar fun K hK=>?_;refine W.lw [0,3] hK ?_;clear hK K;simp;apply dU [0,3,6,7]
 refine W.aO (fun k σ=>∃(i ver:Nat),aQ σ [(0,PI x),(3, .own 3 ver 0 i),(6,ae x.length),(7,ae i)] fun rows clk=>rows 3=some ⟨ver,38,2,emap ie (x.take i)⟩∧k=x.length-i∧i<=x.length) x.length ?_ ?_
 ·exact⟨_, .refl,0,_,_,_,rfl,by simp [emap],aa,aa⟩
 rintro k _ ⟨i,ver,rows,clk,rfl,hr,hk,hi⟩;apply fB [0,3,6,7,8]
 refine W.cond ⟨_,rfl,fun h0=>?_,fun h0=>?_⟩
 ·have h0:i<x.length:=by simp at h0;omega
  have eB:(x.take i).length=i:=by simp;omega
  have hT:=E6 (nth x i) (hx _ (bo h0));apply lW [0,3,4,6,7];refine AE hT fun K hK=>?_;apply fN hr eB;refine W.lw [0,3,6,7] hK ?_;clear hK K;simp;refine bB fun K hK=>?_;refine hK _ ⟨x.length-(i+1),_,ak _ [0,3,6,7],aa,i+1,_,_,_,rfl,?_,aa,aa⟩;rw [bt h0];simp
 ·have iK:i=x.length:=by simp at h0;omega
  subst iK;rw [take_length]at hr;apply (iq);apply u6 hr [2];apply W.ret;simp [go,hr]
theorem Fj(x:List Int):Gv (qs x)=1:=by
 have key:∀l:List Int,(qs l).foldl (fun (d:Int) q=>(d*q.den).tdiv (Int.gcd d q.den)) 1=1:=by
  intro l
  induction l with
  | nil=>rfl
  | cons a l ih =>
   simp only [qs,map_cons,foldl_cons,Rat.den_intCast]at ih |-;exact ih
 exact key x
theorem Vf(x:List Int):NO 1 (qs x)=bK x:=by
 have key:∀(l:List Int) (g:Nat),(qs l).foldl (fun (g:Int) q=>(Int.gcd g ((q.num*1).tdiv q.den):Int)) g=(l.foldl (fun g c=>Nat.gcd g c.natAbs) g:Nat):=by
  intro l
  induction l with
  | nil=>intro g;rfl
  | cons a l ih =>
   intro g;have:=ih (Nat.gcd g a.natAbs);simp only [qs,map_cons,foldl_cons,Rat.den_intCast,Rat.num_intCast]at this |-;rw [<-this];congr 1;simp [Int.gcd]
 exact key x 0
theorem Fl(x:List Int)(i:Nat):(qs x).take i=qs (x.take i):=by simp [qs,map_take]
theorem Bn(hx:0<x.length):Lc (qs x)=(kA x:Rat):=by
 have e:(nth (qs x) ((qs x).length-1)).num=lead x:=by rw [UF];simp [lead]
 unfold Lc kA;rw [Fj,Vf,kO,e]
 split
 ·rw [Rat.intCast_neg]
 ·rfl
theorem agq(cx:Cn x)(hx:x ≠ []):qpr (qs x)=qs (rJ x):=by
 have n7:=length_pos_iff.2 hx;have h0:=nG x;have gx:=cO cx hx;have hp:kA x≠0:=aa;have hc:=gH hp;rw [qpr,Bn n7,jY,rJ,<-vG];congr 1;simp only [qs,map_map];refine map_congr_left fun v hv=>?_;simp only [Function.comp_apply];have hd:=Fe x v hv;obtain⟨w,rfl⟩:=hd;have:pk (kA x) (kA x*w)=w:=by unfold pk;rw [if_pos (Int.mul_emod_right _ _)];exact Int.mul_ediv_cancel_left _ hp
 rw [this,Rat.intCast_mul];grind
theorem l5(hs:∀c∈x,sz 2 c<=s):sz 2 (bK x:Int)<=s:=by
 by_cases h:∃c∈x,c≠0
 ·obtain⟨c,hc,h0⟩:=h;refine Nat.le_trans (cY ar ?_) (hs c hc);have:=Int.le_of_dvd (a:=(bK x:Int)) (b:=(c.natAbs:Int)) aa (Int.dvd_natAbs.2 (iB x _ hc));omega
 ·have h1:bK x=0:=by
   have h2:(0:Nat)∣bK x:=Bl fun c hc=>by have:c=0:=Classical.byContradiction fun h3=>h ⟨c,hc,h3⟩;rw [this];exact Int.dvd_refl _
   exact Nat.eq_zero_of_zero_dvd h2
  rw [h1];show sz 2 0<=s;rw [jV];omega
theorem Bo(x:List Int)(hx:Bd 2 s n x)(cx:Cn x)(ni:1<=s)(hs:s<=YY)(hn:n<1099511627776):aj 155 [PI x] (.cW [.ag (ri (kA x)),PI (rJ x)]):=by
 have Zg:=hx.len
 by_cases h0:x = []
 ·subst h0;have hz:=oK;rw [show kA ([]:List Int)=0 by decide,show rJ ([]:List Int) = []from rfl];apply bL [(0,PI [])] Tryz.func155;apply aR [0,2]
  apply cS [0,2,11]<;>intro h
  ·apply gT hz [2,3];apply W.ret;simp [go]
   all_goals rfl
  ·simp at h
 ·have n7:=length_pos_iff.2 h0;have hp:=nG x;have gx:=cO cx h0;have Pk:kA x≠0:=aa;have hgs:∀i,sz 2 (bK (x.take i):Int)<=s:=fun i=>l5 fun c hc=>hx.sz c (mem_of_mem_take hc)
  have x9:sz 2 (kA x)<=s:=by
   have:=l5 hx.sz
   unfold kA;split
   ·rw [n4];exact this
   ·exact this
  have s1:sz 2 1<=1:=dp ar ar;have zc:ZR YY (kA x:Rat):=n9 (Nat.le_trans x9 hs) ar;have e1:(1:Rat)/(kA x:Rat)=dw 1 (kA x):=by rw [fA Pk];simp
  have:=rK (qs x) hs ni (fun q hq=>by
   simp only [qs,mem_map]at hq;obtain⟨c,hc,rfl⟩:=hq;exact n9 (hx.sz c hc) ni) (by simp;omega) (by simpa [qs]using h0)
   (fun i=>by rw [Fl,Fj];omega) (fun i=>by rw [Fl,Fj];decide) (fun i=>by rw [Fj,Fl,Vf];exact hgs i)
   (by rw [Bn n7];exact zc) (by rw [Bn n7];exact gH Pk) (by rw [Bn n7,e1];exact ud Pk (by show sz 2 1<=137438953472;omega) (Nat.le_trans x9 hs))
  rw [Bn n7,agq cx h0,p7,p7,RR,fP]at this;exact this
theorem QZ{D a b:Nat}(hD:0<D)(ha:a∣D)(hb:b∣D):Nat.lcm (D/a) (D/b)=D/Nat.gcd a b:=by
 have ha0:0<a:=Nat.pos_of_dvd_of_pos ha hD;have hb0:0<b:=Nat.pos_of_dvd_of_pos hb hD;have hg:0<Nat.gcd a b:=Nat.gcd_pos_of_pos_left _ ha0;obtain⟨a',b',hc,ea,eb⟩:=Nat.exists_coprime a b;generalize Nat.gcd a b=g at *;obtain⟨p,hp⟩:=ha;obtain⟨q,hq⟩:=hb
 have h1:a'*p=b'*q:=by
  have:g*(a'*p)=g*(b'*q):=by rw [ea]at hp;rw [eb]at hq;grind
  exact Nat.eq_of_mul_eq_mul_left hg this
 have h2:a'∣q:=hc.dvd_of_dvd_mul_left (by rw [<-h1];exact Nat.dvd_mul_right _ _);obtain⟨m,rfl⟩:=h2
 have asO:0<a':=by
  rcases Nat.eq_zero_or_pos a' with h | h
  ·rw [h]at ea;omega
  ·exact h
 have h3:p=b'*m:=by
  have:a'*p=a'*(b'*m):=by rw [h1];grind
  exact Nat.eq_of_mul_eq_mul_left asO this
 subst h3;have e1:D/a=b'*m:=by rw [hp];exact Nat.mul_div_cancel_left _ ha0
 have e2:D/b=a'*m:=by rw [hq];exact Nat.mul_div_cancel_left _ hb0
 have e3:D/g=a'*b'*m:=by rw [hp,ea,show a'*g*(b'*m)=g*(a'*b'*m)by grind];exact Nat.mul_div_cancel_left _ hg
 rw [e1,e2,e3,Nat.lcm_mul_right,Nat.lcm_comm,Nat.lcm,show a'.gcd b'=1 from hc,Nat.div_one]
theorem Vg(n:Nat)(q:Rat):((n:Int)*q.den).tdiv (Int.gcd n q.den)=(Nat.lcm n q.den:Nat):=by have:Int.gcd (n:Int) (q.den:Int)=Nat.gcd n q.den:=rfl;rw [this,<-Int.natCast_mul,<-Int.ofNat_tdiv];rfl
theorem yf{D:Nat}(hD:0<D):(dw v D).den=D/Nat.gcd D v.natAbs:=by
 have h:=pg v D aa;have h2:¬(D:Int)<0:=aa;simp only [h2,if_false]at h;have:Int.gcd v (D:Int)=Nat.gcd D v.natAbs:=by rw [Int.gcd,Nat.gcd_comm];rfl
 rw [this]at h
 exact_mod_cast h
theorem yg{D:Nat}(hD:0<D):(dw v D).num=v/(Nat.gcd D v.natAbs:Nat):=by
 have h:=o9 v D aa;have h2:¬(D:Int)<0:=aa;simp only [h2,if_false]at h;have:Int.gcd v (D:Int)=Nat.gcd D v.natAbs:=by rw [Int.gcd,Nat.gcd_comm];rfl
 rw [this]at h;exact h
def Sp(D:Nat)(x:List Int):Nat:=Nat.gcd D (bK x)
theorem Fm{D:Nat}(hD:0<D)(x:List Int):Gv (qd x D)=(D/Sp D x:Nat):=by
 have key:∀(l:List Int) (g:Nat),g∣D->(qd l D).foldl (fun (d:Int) q=>(d*q.den).tdiv (Int.gcd d q.den)) (D/g:Nat)=(D/(l.foldl (fun g c=>Nat.gcd g c.natAbs) g):Nat):=by
  intro l
  induction l with
  | nil=>intro g _;rfl
  | cons a l ih =>
   intro g hg;have h1:=ih (Nat.gcd g a.natAbs) (Nat.dvd_trans (Nat.gcd_dvd_left _ _) hg);simp only [qd,map_cons,foldl_cons]at h1 |-;rw [Vg,yf hD,QZ hD hg (Nat.gcd_dvd_left _ _)];rw [show Nat.gcd g (Nat.gcd D a.natAbs)=Nat.gcd g a.natAbs by rw [<-Nat.gcd_assoc,Nat.gcd_eq_left hg]];exact h1
 have h2:∀(l:List Int) (g:Nat),l.foldl (fun g c=>Nat.gcd g c.natAbs) g=Nat.gcd g (bK l):=by
  intro l;unfold bK
  induction l with
  | nil=>intro g;simp
  | cons a l ih =>
   intro g;simp only [foldl_cons];rw [ih,ih (Nat.gcd 0 a.natAbs),Nat.gcd_zero_left,Nat.gcd_assoc]
 have h3:=key x D (Nat.dvd_refl _);rw [Nat.div_self hD,h2]at h3;exact h3
theorem Vh{D:Nat}(hD:0<D)(x:List Int){G:Nat}(hG:G∣D)(hx:∀c∈x,(G:Int)∣c):NO (D/G:Nat) (qd x D)=(bK x/G:Nat):=by
 have hG0:0<G:=Nat.pos_of_dvd_of_pos hG hD
 have key:∀(l:List Int) (g:Nat),(∀c∈l,(G:Int)∣c)->G∣g->(qd l D).foldl (fun (g:Int) q=>(Int.gcd g ((q.num*((D/G:Nat):Int)).tdiv q.den):Int)) (g/G:Nat)=((l.foldl (fun g c=>Nat.gcd g c.natAbs) g)/G:Nat):=by
  intro l
  induction l with
  | nil=>intro g _ _;rfl
  | cons a l ih =>
   intro g hl hg;have ha:G∣a.natAbs:=Int.ofNat_dvd_left.1 (hl a av);have h1:=ih (Nat.gcd g a.natAbs) (fun c hc=>hl c (by simp [hc])) (Nat.dvd_gcd hg ha);simp only [qd,map_cons,foldl_cons]at h1 |-
   have e:((dw a D).num*((D/G:Nat):Int)).tdiv (dw a D).den=a/(G:Int):=by
    rw [yg hD,yf hD];have E5:Nat.gcd D a.natAbs∣D:=Nat.gcd_dvd_left _ _;have GU:Nat.gcd D a.natAbs∣a.natAbs:=Nat.gcd_dvd_right _ _;have hgp:0<Nat.gcd D a.natAbs:=Nat.gcd_pos_of_pos_left _ hD;generalize Nat.gcd D a.natAbs=k at *;obtain⟨m,hm⟩:=E5;obtain⟨n,hn⟩:(k:Int)∣a:=Int.ofNat_dvd_left.2 GU;obtain⟨p,hp⟩:=hG;obtain⟨r,hr⟩:=hl a av
    have Jm:0<m:=by
     rcases Nat.eq_zero_or_pos m with h | h
     ·rw [h]at hm;omega
     ·exact h
    rw [show a/(k:Int)=n by rw [hn];exact Int.mul_ediv_cancel_left _ aa,show D/G=p by rw [hp];exact Nat.mul_div_cancel_left _ hG0,show D/k=m by rw [hm];exact Nat.mul_div_cancel_left _ hgp,
     show a/(G:Int)=r by rw [hr];exact Int.mul_ediv_cancel_left _ aa]
    have e2:n*(p:Int)=m*r:=(by have hDI:(k:Int)*m=G*p:=(by exact_mod_cast hm.symm.trans hp);have hk:(k:Int)*n=G*r:=hn.symm.trans hr;have wG:(k:Int)≠0:=aa;have hG1:(G:Int)≠0:=aa;have:(k:Int)*G*(n*p)=k*G*(m*r):=(by have e3:(k:Int)*G*(n*p)=(k*n)*(G*p):=aG;rw [e3,hk,<-hDI];grind);exact Int.eq_of_mul_eq_mul_left (Int.mul_ne_zero wG hG1) this);rw [e2];exact Int.mul_tdiv_cancel_left _ aa
   rw [e,show Int.gcd ((g/G:Nat):Int) (a/(G:Int))=Nat.gcd g a.natAbs/G from ?_]
   ·exact h1
   ·rw [Int.gcd,Int.natAbs_natCast,<-Nat.gcd_div hg ha];congr 1;obtain⟨r,hr⟩:=hl a av;rw [hr,Int.mul_ediv_cancel_left _ (show (G:Int)≠0 by omega),Int.natAbs_mul,Int.natAbs_natCast,Nat.mul_div_cancel_left _ hG0]
 have:=key x 0 hx (Nat.dvd_zero _);rw [Nat.zero_div]at this;exact this
theorem vP(D:Nat)(x:List Int):Sp D x∣D:=Nat.gcd_dvd_left _ _
theorem NQ{D:Nat}(hD:0<D)(x:List Int):0<Sp D x:=Nat.gcd_pos_of_pos_left _ hD
theorem NR(D:Nat)(x:List Int):∀c∈x,((Sp D x:Nat):Int)∣c:=fun c hc=>Int.dvd_trans (Int.ofNat_dvd.2 (Nat.gcd_dvd_right _ _)) (iB x c hc)
theorem yh{D:Nat}(hD:0<D):(dw v D).num<0↔v<0:=by
 rw [yg hD];have hg:0<Nat.gcd D v.natAbs:=Nat.gcd_pos_of_pos_left _ hD;obtain⟨n,hn⟩:((Nat.gcd D v.natAbs:Nat):Int)∣v:=Int.ofNat_dvd_left.2 (Nat.gcd_dvd_right _ _);generalize Nat.gcd D v.natAbs=g at *;rw [hn,Int.mul_ediv_cancel_left _ (show (g:Int)≠0 by omega)]
 constructor
 ·intro h;exact Int.mul_neg_of_pos_of_neg aa h
 ·intro h
  rcases Int.lt_or_le n 0 with h1 | h1
  ·exact h1
  ·have:=Int.mul_nonneg (show (0:Int)<=g by omega) h1;omega
theorem Vi{D:Nat}(hD:0<D)(hx:0<x.length):Lc (qd x D)=dw (kA x) D:=by
 have wL:(D:Int)≠0:=aa;have e:(nth (qd x D) ((qd x D).length-1)).num<0↔lead x<0:=by rw [Fg wL,yh hD];simp [lead]
 have hG:=NQ hD x;have e2:dw (NO (Gv (qd x D)) (qd x D)) (Gv (qd x D))=dw (bK x) D:=by rw [Fm hD,Vh hD x (vP D x) (NR D x)];have h1:D/Sp D x*Sp D x=D:=Nat.div_mul_cancel (vP D x);have h2:bK x/Sp D x*Sp D x=bK x:=Nat.div_mul_cancel (Nat.gcd_dvd_right _ _);have h3:0<D/Sp D x:=Nat.div_pos (Nat.le_of_dvd hD (vP D x)) hG;have h4:=NK (v:=(bK x/Sp D x:Nat)) (D:=(D/Sp D x:Nat)) (l:=(Sp D x:Nat)) aa aa;rw [<-Int.natCast_mul,<-Int.natCast_mul,h1,h2]at h4;exact h4.symm
 unfold Lc kA;rw [e2]
 by_cases h:lead x<0
 ·rw [if_pos (e.2 h),if_pos h,<-NL wL];grind
 ·rw [if_neg (fun h2=>h (e.1 h2)),if_neg h]
theorem NS(hD:D≠0)(hv:v≠0):1/dw v D=dw D v:=by rw [fA hD,fA hv];have h1:=gH hD;have h2:=gH hv;grind
theorem Ld(cx:Cn x)(hx:x ≠ []):kA x≠0:=by have h0:=nG x;have gx:=cO cx hx;omega
theorem ags{D:Nat}(hD:0<D)(cx:Cn x)(hx:x ≠ []):qpr (qd x D)=qs (rJ x):=by
 have n7:=length_pos_iff.2 hx;have wL:(D:Int)≠0:=aa;have hp:=Ld cx hx;have hc:=gH hp;have hDc:=gH wL;rw [qpr,Vi hD n7,NS wL hp,jY,rJ,<-vG];congr 1;simp only [qd,qs,map_map];refine map_congr_left fun v hv=>?_;simp only [Function.comp_apply];obtain⟨w,rfl⟩:=Fe x v hv;have:pk (kA x) (kA x*w)=w:=by unfold pk;rw [if_pos (Int.mul_emod_right _ _)];exact Int.mul_ediv_cancel_left _ hp
 rw [this,fA wL,fA hp,Rat.intCast_mul];grind
theorem H7(x:List Int):jL x=if lead x<0 then gL (rJ x)else rJ x:=by
 unfold rJ kA
 split
 ·have e:∀v,pk (-(bK x:Int)) v = - pk (bK x) v:=fun v=>by unfold pk;rw [Int.emod_neg,Int.ediv_neg];split<;>simp
  refine Cn.ext (Cn.cut _) (Cn.gL _) fun t=>?_;rw [AG,c8,jL,c8];have h1:=gO (t:=t) (-1) (pk (bK x)) x;have h2:(x.map fun v=>pk (bK x) v * -1)=x.map (pk (-(bK x:Int))):=map_congr_left fun v _=>by rw [e];omega
  rw [h2]at h1;rw [h1];omega
 ·rfl
theorem Le(x:List Int)(D:Nat)(hD:0<D)(hx:Bd 2 s n x)(sD:sz 2 D<=s)(cx:Cn x)(h0:x ≠ [])(ni:1<=s)(hs:s<=YY)(hn:n<1099511627776) :
  aj 155 [PP (qd x D)] (.cW [RR (dw (kA x) D),PI (rJ x)]):=by
 have wL:(D:Int)≠0:=aa;have n7:=length_pos_iff.2 h0;have hp:=Ld cx h0;have hlen:=hx.len;have sdiv:∀(a b:Nat),sz 2 (a:Int)<=s->sz 2 ((a/b:Nat):Int)<=s:=fun a b h=>Nat.le_trans (cY ar (by rw [Int.natAbs_natCast,Int.natAbs_natCast];exact Nat.div_le_self a b)) h;have spc:sz 2 (kA x)<=s:=by have:=l5 hx.sz;refine Nat.le_trans (cY ar (Nat.le_of_eq ?_)) this;rw [nG];rfl
 have tk:∀i,(qd x D).take i=qd (x.take i) D:=fun i=>by simp [qd,map_take]
 have hc:=Vi hD n7
 have h1:=rK (qd x D) (k:=s) hs ni (fun q hq=>by simp only [mem_map]at hq;obtain⟨v,hv,rfl⟩:=hq;exact ud wL (hx.sz v hv) sD) (by simp;omega) (au h0)
  (fun i=>by rw [tk,Fm hD];exact sdiv _ _ sD)
  (fun i=>by rw [tk,Fm hD];have:=Nat.div_pos (Nat.le_of_dvd hD (vP D (x.take i))) (NQ hD _);omega)
  (fun i=>by rw [tk,Fm hD,Vh hD (x.take i) (vP D x) (fun c hc=>NR D x c (mem_of_mem_take hc))];exact sdiv _ _ (l5 fun c hc=>hx.sz c (mem_of_mem_take hc)))
  (by rw [hc];exact ud wL (Nat.le_trans spc hs) (Nat.le_trans sD hs))
  (by rw [hc];exact fun h=>hp ((ye wL).1 h))
  (by rw [hc,NS wL hp];exact ud hp (Nat.le_trans sD hs) (Nat.le_trans spc hs))
 rw [hc,ags hD cx h0,p7]at h1;exact h1
theorem Vj(hx:Bd 2 s n x):Bd 2 s n (rJ x):=Bd.cut ⟨by simpa using hx.len,fun c hc=>by
 simp only [mem_map]at hc;obtain⟨v,hv,rfl⟩:=hc;refine Nat.le_trans (cY ar ?_) (hx.sz v hv);unfold pk
 split
 ·exact Int.natAbs_ediv_le_natAbs _ _
 ·simp⟩
theorem H8(x:List Int)(D:Nat)(hD:0<D)(hx:Bd 2 s n x)(sD:sz 2 D<=s)(cx:Cn x)(ni:1<=s)(hs:s<=YY)(hn:n<1099511627776) :
  aj 159 [PP (qd x D)] (PI (jL x)):=by
 have wL:(D:Int)≠0:=aa;have bp:=Vj hx;have hN:=Dy (rJ x) (bp.mono hs aa);rw [H7]
 have hP:∃q:Rat,aj 155 [PP (qd x D)] (.cW [RR q,PI (rJ x)])∧(q.num<0↔lead x<0):=by
  by_cases h0:x = []
  ·subst h0
   refine⟨(kA []:Int),?_,?_⟩
   ·have:=Bo [] hx cx ni hs hn;rw [RR,fP];exact this
   ·rw [show kA ([]:List Int)=0 by decide];decide
  ·refine⟨_,Le x D hD hx sD cx h0 ni hs hn,?_⟩;rw [yh hD];have gx:=cO cx h0;unfold kA;split<;>omega
 obtain⟨q,hP,hq⟩:=hP;generalize rJ x=y,qd x D=l at *;apply bL [(0,PP l)] Tryz.func159;apply fk [0] hP [3,4]
 apply cS [4,12]<;>intro h
 ·simp at h;rw [if_pos (hq.1 h)];exact yN hN [2]
 ·have h:¬q.num<0:=au h;rw [if_neg (fun h2=>h (hq.2 h2))];apply W.skip;exact dS [2]
theorem H9(x y:List Int){N:Nat}(hx:Bd 2 s N x)(hy:Bd 2 s' N y)(cx:Cn x)(cy:Cn y)(KL:0<y.length)(hs:1<=s)(hB:s+(N+1)*(s'+N+2)+s'+N+N+10<137438953472) :
  aj 256 [PP (qs x),PP (qs y)] (.cW [PP (qd (aK (Va x y).Q) (Va x y).D),PP (qd (Va x y).r (Va x y).D)]):=by
 have U0:=hx.len;have hNy:=hy.len;have hl:=cZ cy KL;have ZO:=fU hy;have hM:x.length+1<=N+1:=aa;refine jx (E:=env) (fun id=>if id=17 then 2 else 0) [(0,PP (qs x)),(1,PP (qs y))] Tryz.func256 rfl bX bX (show 2<=84 by decide) av ?_;obtain⟨R0,Ap⟩:∃R0,R0=QX y (x.length+1) ⟨replicate (jn x y) 0,x,1⟩:=⟨_,rfl⟩
 rw [show Va x y=R0 from Ap.symm];have hkN:jn x y<=N:=by unfold jn;omega
 have hkk:(if (x.length:Int)-(y.length:Int)+1<0 then 0 else(x.length:Int)-(y.length:Int)+1)=(jn x y:Int):=by unfold jn;split<;>omega
 have hI0:ue x y ⟨replicate (jn x y) 0,x,1⟩:=ue.start cx;generalize wG:jn x y=k0 at *;obtain⟨a0,ha0⟩:∃a0,a0=qs x:=⟨_,rfl⟩
 obtain⟨yq,hyq⟩:∃yq,yq=qs y:=⟨_,rfl⟩
 have la0:a0.length=x.length:=by rw [ha0];simp
 have lyq:yq.length=y.length:=by rw [hyq];simp
 rw [<-ha0,<-hyq];apply mz [0,1];simp (disch:=omega) [gw,la0,lyq,hkk];apply c9 [0,1,6];apply dU [0,1,6,21,22]
 refine W.aO (fun k σ=>∃(i ver:Nat) (els:List (List PV)) (rows:Pm.Rows) (clk:Nat),σ=⟨fa [(0,PP a0),(1,PP yq),(6, .own 19 ver 0 k0),(21,ae k0),(22,ae i)],rows,clk⟩ ∧
  rows 19=some ⟨ver,31,4,els⟩∧els.length=k0∧(∀e∈els,e.length=4)∧els.take i=emap ri (replicate i 0)∧k=k0-i∧i<=k0) k0 ?_ ?_
 ·exact⟨_, .refl,0,_,replicate k0 [.nil, .bool false, .nil, .bool false],_,_,rfl,av,av,av,by simp [emap],aa,aa⟩
 rintro k _ ⟨i,ver,els,rows,clk,rfl,hr,mg,HJ,qw,hk,hi⟩;have KJ:bC 4 els=True:=by simp only [bC,eq_iff_iff,iff_true];exact HJ
 apply ef [0,1,6,21,22,23]<;>intro h
 ·have h:i<k0:=by simp at h;omega
  apply lW [0,1,6,7,21,22];refine AE oK fun K hK=>?_;have tZ:i<els.length:=aa;have hE:tI els i 4=True:=by simp only [eq_iff_iff,iff_true];exact⟨els[i],getElem?_eq_getElem tZ,by rw [HJ _ (getElem_mem tZ)];omega⟩
  have hS:fQ els i 0 [aw ay (aI DD 0), .bool false,aw ay (aI DD 1), .bool false]=els.set i (ri 0):=by have h4:=HJ _ (getElem_mem tZ);rw [fQ,getElem?_eq_getElem tZ];simp [drop_of_length_le,h4]
  apply qk hr hE hS;refine W.lw [0,1,6,21,22] hK ?_;clear hK K;simp;refine bB fun K hK=>?_
  refine hK _ ⟨k0-(i+1),_,ak _ [0,1,6,21,22],aa,i+1,ver,els.set i (ri 0),_,_,rfl,av,au mg,fun e he=>?_,?_,aa,aa⟩
  ·rcases mem_or_eq_of_mem_set he with h1 | h1
   ·exact HJ e h1
   ·rw [h1];rfl
  ·rw [lf qw aa,replicate_succ'];simp [emap]
 have h:i=k0:=by simp at h;omega
 subst h;have lT:els=emap re (qd (replicate i 0) 1):=by rw [Fh,Bm,<-qw,bG mg]
 subst lT;rw [show a0=qd x 1 by rw [ha0,Fh]];clear qw HJ mg KJ hk hi hkk ha0 la0 a0;apply (ey);apply (iR);generalize Nw:s'+N+2=d at *;have U1:∀j,(x.length+1-j)*d<=(N+1)*d:=fun j=>Nat.mul_le_mul_right _ aa
 refine W.aO (fun n σ=>∃(Q r:List Int) (D:Int) (v6:Nat),aQ σ [(0,PP (qd r D)),(1,PP yq),(6, .own 19 v6 0 i)] fun rows clk =>
  rows 19=some ⟨v6,31,4,emap re (qd Q D)⟩∧Q.length=i∧ue x y ⟨Q,r,D⟩∧r.length<n∧n<=x.length+1∧QX y n ⟨Q,r,D⟩=R0∧Bd 2 (s+(x.length+1-n)*d) N r∧sz 2 D<=s+(x.length+1-n)*d) (x.length+1) ?_ ?_
 ·exact⟨_,ak _ [0,1,6],_,x,1,_,_,_,rfl,hr,av,hI0,aa,aa,Ap.symm,hx.mono aa aa,Nat.le_trans (dp (k:=1) ar ar) aa⟩
 clear hr rows clk ver;rintro n _ ⟨Q,r,D,v6,rows,clk,rfl,hr,hQ,hI,hrn,hnM,hd,br,bD⟩;have hD:D≠0:=hI.d;have Qv:=U1 n;obtain⟨a,ha⟩:∃a,a=qd r D:=⟨_,rfl⟩
 have la:a.length=r.length:=by rw [ha];simp
 rw [<-ha];apply W.seq;apply W.sr;simp (disch:=omega) [gw,la,lyq]
 apply u7 [0,1,6,34]<;>intro h
 ·have h:y.length<=r.length:=by simp at h;omega
  obtain⟨n,rfl⟩:∃m,n=m+1:=⟨n-1,aa⟩
  obtain⟨k,hk⟩:∃k,k=r.length-y.length:=⟨_,rfl⟩
  have hkI:(r.length:Int)-(y.length:Int)=k:=aa;have mZ:k<i:=by have:=hI.q.resolve_right (show ¬r.length<y.length by omega);simp only at this;omega
  have Xz:=hI.step cy KL h;have AV:=Fi (σ:=⟨Q,r,D⟩) KL h;rw [QX,if_neg (show ¬r.length<y.length by omega)]at hd;simp only [dst,<-hk]at Xz AV hd;have hT:s+(x.length+1-n)*d=s+(x.length+1-(n+1))*d+d:=by rw [show x.length+1-n=(x.length+1-(n+1))+1 by omega,Nat.add_mul,Nat.one_mul];omega
  have hn3:=U1 n;generalize hU:s+(x.length+1-(n+1))*d=U at *;have hlr:=fU br;have hNr:=br.len;have uJ:D*lead y≠0:=Int.mul_ne_zero hD hl;have zD2:sz 2 (D*lead y)<=U+s':=ct ar bD ZO;have hp:nth a (r.length-1)=dw (lead r) D:=by rw [ha,Fg hD];rfl
  have Js:nth yq (y.length-1)=(lead y:Rat):=by rw [hyq,UF];rfl
  have am3:=A8 (dw (lead r) D) (lead y:Rat) (ud hD (Nat.le_trans hlr (by show U<=137438953472;omega)) (Nat.le_trans bD (by show U<=137438953472;omega))) (n9 (Nat.le_trans ZO (by show s'<=137438953472;omega)) ar) (gH hl);rw [ZW hD hl]at am3;have hSc:=ph yq (dw (lead r) (D*lead y)) (by rw [hyq];exact Qy.qs (fun c hc=>Nat.le_trans (hy.sz c hc) (by show s'<=137438953472;omega)) aa) (ud uJ (Nat.le_trans hlr (by show U<=137438953472;omega)) (Nat.le_trans zD2 (by show U+s'<=137438953472;omega)));rw [hyq,QW uJ,<-hyq]at hSc;have bsc:Bd 2 (U+s') N (aY y (lead r)):=(hy.aY ar hlr).mono aa aa
  have bw:Bd 2 (U+s') N (replicate k 0++aY y (lead r)):=⟨by have:=o8 y (lead r);simp;omega,fun c hc=>by
   rcases mem_append.1 hc with h1 | h1
   ·rw [(mem_replicate.1 h1).2,jV];omega
   ·exact bsc.sz c h1⟩
  have brl:Bd 2 (U+s') N (r.map (· * lead y)):=⟨by simpa using br.len,fun c hc=>by simp only [mem_map]at hc;obtain⟨v,hv,rfl⟩:=hc;exact ct ar (br.sz v hv) ZO⟩
  have hSu:=Vb (qd (r.map (· * lead y)) (D*lead y)) (qd (replicate k 0++aY y (lead r)) (D*lead y)) _
   (Lb uJ brl zD2 (by show U+s'<=137438953472;omega) aa) (Lb uJ bw zD2 (by show U+s'<=137438953472;omega) aa) (ZZ uJ _) (Lb uJ bw.gL zD2 (by show U+s'<=137438953472;omega) aa)
  rw [ZY uJ,La hD hl,<-ha]at hSu;have er:iw (r.map (· * lead y)) (gL (replicate k 0++aY y (lead r)))=wJ y (lead y) (lead r) k r:=Cn.ext (Cn.iw _ _) (Cn.fC _ _) fun t=>by rw [rp,dM,AG,dK,pW,cM,wJ,iT,cM,dq,nD,length_replicate];grind
  have br2:Bd 2 (U+d) N (wJ y (lead y) (lead r) k r):=by rw [<-er];exact(Bd.iw ar brl bw.gL).mono aa aa
  rw [er]at hSu;have ew:qd (replicate k 0++aY y (lead r)) (D*lead y)=replicate k 0++qd (aY y (lead r)) (D*lead y):=by simp only [qd,map_append,map_replicate,vN uJ]
  rw [ew]at hSu;have lb:(qd (aY y (lead r)) (D*lead y)).length<=N:=by have:=bsc.len;simpa using this
  have Cz:(qd Q D).set k (dw (lead r) (D*lead y))=qd ((Q.map (· * lead y)).set k (lead r)) (D*lead y):=by rw [<-La hD hl Q,qd,qd,map_set]
  have ZK:(qd Q D).length=i:=au hQ;apply (qj);generalize hz:qd Q D=z,qd (aY y (lead r)) (D*lead y)=b at *;generalize Lg:dw (lead r) (D*lead y)=c at *;generalize Gq:dw (lead r) D=p at *;generalize hlq:(lead y:Rat)=lq at *;generalize ha2:qd (wJ y (lead y) (lead r) k r) (D*lead y)=a2 at *;apply W.sr;simp (disch:=omega) [gw,la,lyq,hkI];apply c9 [0,1,6,8];have ayp:0<r.length:=aa;have e1:((r.length:Int)-1).toNat=r.length-1:=aa;have e2:((y.length:Int)-1).toNat=y.length-1:=aa;apply W.sd;simp (disch:=omega) [gw,la,lyq,e1,e2,hp,Js];apply cT am3;apply (cp);rw [if_pos bX];apply bM [0,1,6,8,9];have hkl:k<z.length:=aa;apply oD hr hkl [0,1,6,8,9];apply aR [0,1,6,8,9,10];apply dU [0,1,6,8,9,10,60,61]
  refine W.aO (fun m σ=>∃(j v9 v10 v6:Nat) (els:List (List PV)) (rows:Pm.Rows) (clk:Nat),σ=⟨fa [(0,PP a),(1,PP yq),(6, .own 19 v6 0 i),(9, .ptr 9 v9 0 0),(10, .own 58 v10 0 k),(60,ae k),(61,ae j)],rows,clk⟩ ∧
   rows 19=some ⟨v6,31,4,emap re (z.set k c)⟩∧rows 9=some ⟨v9,31,4,[[aw ay (aI DD c.num.natAbs), .bool (decide (c.num<0)),aw ay (aI DD c.den), .bool false]]⟩ ∧
   rows 58=some ⟨v10,31,4,els⟩∧els.length=k∧(∀e∈els,e.length=4)∧els.take j=emap ri (replicate j 0)∧m=k-j∧j<=k) k ?_ ?_
  ·exact⟨_,ak _ [0,1,6,9,10,60,61],0,_,_,_,replicate k [.nil, .bool false, .nil, .bool false],_,_,rfl,by simp [hr],av,av,av,av,by simp [emap],aa,aa⟩
  clear hr rows clk v6;rintro m _ ⟨j,v9,v10,v6,els,rows,clk,rfl,hr,Z3,HZ,mg,HJ,qw,hm,hj⟩;have KJ:bC 4 els=True:=by simp only [bC,eq_iff_iff,iff_true];exact HJ
  apply ef [0,1,6,9,10,60,61,62]<;>intro h
  ·have h:j<k:=(by simp at h;omega);apply lW [0,1,6,9,10,11,60,61];refine AE oK fun K hK=>?_;have tZ:j<els.length:=aa;have hE:tI els j 4=True:=(by simp only [eq_iff_iff,iff_true];exact⟨els[j],getElem?_eq_getElem tZ,by rw [HJ _ (getElem_mem tZ)];omega⟩);have hS:fQ els j 0 [aw ay (aI DD 0), .bool false,aw ay (aI DD 1), .bool false]=els.set j (ri 0):=(by have h4:=HJ _ (getElem_mem tZ);rw [fQ,getElem?_eq_getElem tZ];simp [drop_of_length_le,h4]);apply qk HZ hE hS;refine W.lw [0,1,6,9,10,60,61] hK ?_;clear hK K;simp;refine bB fun K hK=>?_
   refine hK _ ⟨k-(j+1),_,ak _ [0,1,6,9,10,60,61],aa,j+1,v9,v10,v6,els.set j (ri 0),_,_,rfl,by simp [hr],by simp [Z3],av,au mg,fun e he=>?_,?_,aa,aa⟩
   ·rcases mem_or_eq_of_mem_set he with h1 | h1
    ·exact HJ e h1
    ·rw [h1];rfl
   ·rw [lf qw aa,replicate_succ'];simp [emap]
  have h:j=k:=by simp at h;omega
  subst h;have lT:els=emap re (replicate j 0):=by have h1:emap ri (replicate j 0)=emap re (replicate j 0):=(by simp [emap,fP]);rw [<-h1,<-qw,bG mg]
  subst lT;clear qw HJ mg KJ;apply (ey);refine W.Dd fun K hK=>?_;rw [if_pos rfl,fc];have yE:((List.take r.length a).drop 0)=a:=by rw [drop_zero,take_of_length_le aa]
  simp (disch:=omega) [gw,la,lyq,Z3,EF,yE];apply cT hSc;have wH:List.take (j+b.length) (replicate j 0++b)=replicate j 0++b:=take_of_length_le av;apply iS HZ wH hSu;apply (cp);subst ha2;have bE:rows 19=some ⟨v6,31,4,emap re (qd ((Q.map (· * lead y)).set j (lead r)) (D*lead y))⟩:=by rw [hr,Cz]
  refine hK _ ⟨n,_,ak _ [0,1,6],aa,(Q.map (· * lead y)).set j (lead r),wJ y (lead y) (lead r) j r,D*lead y,v6,_,_,rfl,by simp [bE],au hQ,Xz,aa,aa,hd,?_,?_⟩
  ·rw [hT];exact br2
  ·rw [hT];exact Nat.le_trans zD2 aa
 ·have h:r.length<y.length:=by simp at h;omega
  rw [Z0 h]at hd;subst hd;apply (ey);have hcq:=vH (qd Q D) (by simp;omega);rw [vO hD]at hcq;have ZK:(qd Q D).length=i:=au hQ;have n6:=bG ZK;rw [<-ha];generalize qd Q D=z,qd (aK Q) D=z2 at *;apply lG hr n6 hcq;exact eK [4,5]
theorem Ia{x y:List Int}(cy:Cn y)(hy:0<y.length):∀(j:Nat),j<=x.length->U5 y j (replicate j 0++x.drop j) (bN (aK (x.take j)) y)=some (x,[])
 | 0,_=>by
  have:bN (aK (x.take 0)) y = []:=Cn.ext (Cn.bN _ _) Cn.nil fun t=>by rw [dq,c8];simp [V]
  rw [U5,this];rfl
 | j+1,h=>by
  have ih:=Ia (x:=x) cy hy j aa;have hly:=cZ cy hy;have ht:=bt (l:=x) (i:=j) aa;have hdr:x.drop j=nth x j::x.drop (j+1):=by rw [drop_eq_getElem_cons (l:=x) (i:=j) aa,show nth x j=x[j]from bJ aa]
  rw [U5]
  by_cases hv:nth x j=0
  ·have hw:aK (x.take (j+1))=aK (x.take j):=(by rw [ht,hv,jy]);rw [hw];have h1:=ru (x:=aK (x.take j)) hy;have h2:=bS (x.take j);rw [length_take]at h2;rw [if_pos aa,<-ih];rw [hdr,hv,replicate_succ',append_assoc];rfl
  ·have hw:aK (x.take (j+1))=x.take j ++ [nth x j]:=(by rw [ht];exact iJ hv _);have cw:Cn (x.take j ++ [nth x j]):=iJ hv _;have hwl:(x.take j ++ [nth x j]).length=j+1:=(by simp;omega);have hlw:lead (x.take j ++ [nth x j])=nth x j:=(by rw [lead,hwl,Nat.add_sub_cancel,bJ aa];have:(x.take j).length=j:=(by simp;omega);simp [getElem_append_right,this]);rw [hw];have hl:=jC cw cy aa hy;have hd:=w7 cw cy aa hy;rw [hwl]at hl;rw [hlw]at hd;rw [if_neg aa,hd,if_pos (Int.mul_emod_left _ _),Int.mul_ediv_cancel _ hly];have e1:fC (bN (x.take j ++ [nth x j]) y) (bN (qo j (nth x j)) y)=bN (aK (x.take j)) y:=Cn.ext (Cn.fC _ _) (Cn.bN _ _) fun t=>by rw [iT,dq,dq,dq,c8,dK,nv,nD,show(x.take j).length=j by simp;omega];grind
   have e2:(replicate (j+1) 0++x.drop (j+1)).set j (nth x j)=replicate j 0++x.drop j:=(by rw [hdr,replicate_succ',append_assoc,set_append_right _ _ av];simp);rw [e1,e2];exact ih
theorem Lh(cx:Cn x)(cy:Cn y)(hy:0<y.length):exact (bN x y) y=some x:=by
 have hk:jn (bN x y) y=x.length:=by
  rcases Nat.eq_zero_or_pos x.length with h | h
  ·have:x = []:=eq_nil_of_length_eq_zero h;have e:bN x y = []:=Cn.ext (Cn.bN _ _) Cn.nil fun t=>by rw [dq,this];simp [V]
   rw [e,this];simp [jn];omega
  ·have:=jC cx cy h hy;unfold jn;omega
 have h1:=Ia (x:=x) cy hy x.length (Nat.le_refl _);rw [take_length,show aK x=x from cx,drop_length,append_nil]at h1;rw [exact,hk,h1,exF,show aK x=x from cx]
theorem Fo{h:List Int}(cy:Cn y)(hy:0<y.length)(e:∀t,V t y*V t h=0):aK h = []:=by
 by_cases hh:aK h = []
 ·exact hh
 ·exfalso;have h1:bN y (aK h) = []:=Cn.ext (Cn.bN _ _) Cn.nil fun t=>by rw [dq,c8,e];rfl
  have h2:=jC cy (Cn.cut h) hy (length_pos_iff.2 hh);rw [h1]at h2;have:=length_pos_iff.2 hh;simp at h2;omega
theorem Ib(h:aK (fC a b) = [])(t:Int):V t a=V t b:=by have h1:=iT (t:=t) a b;rw [<-c8,h]at h1;have:V t ([]:List Int)=0:=rfl;omega
theorem Q0(h:D≠0)(x:List Int):qd (x.map (· * D)) D=qs x:=by have:=La (D:=1) (l:=D) ar h x;rw [Int.one_mul,Fh]at this;exact this
theorem Vk{q:List Int}(cx:Cn x)(cy:Cn y)(hy:0<y.length)(cq:Cn q)(h:∀t,V t x=V t q*V t y):qd (aK (Va x y).Q) (Va x y).D=qs q∧(Va x y).r = []:=by
 obtain⟨hI,hr⟩:=Z2 cx cy hy;generalize Va x y=σ at *;have hv:=hI.v;have e:∀t,V t σ.r=V t y*V t (fC (q.map (· * σ.D)) σ.Q):=fun t=>by have h1:=hv t;rw [h]at h1;rw [iT,dM];grind
 have h1:=Di hI.c cy hy e hr;have h2:aK (fC (q.map (· * σ.D)) σ.Q) = []:=Fo cy hy fun t=>by rw [<-e,h1];rfl
 have e2:aK σ.Q=q.map (· * σ.D):=Cn.ext (Cn.cut _) (ky cq hI.d) fun t=>by rw [c8];exact(Ib h2 t).symm
 rw [e2];exact⟨Q0 hI.d q,h1⟩
end Go.Proofs.YtiobceocpabjdaaGreat
