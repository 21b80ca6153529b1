import Derived.Test.YtiobceocpabjdaaGreatKah
import Derived.Test.YtiobceocpabjdaaGreatKak
import Derived.Test.YtiobceocpabjdaaGreatKam
set_option linter.unusedSimpArgs false
set_option linter.unusedVariables false
namespace Pm
open Go Go.RowKit
section
variable {E:Env} {c:Cx} {w0:World} {S0:dF} {m:Nat} {G:Gs}
theorem ac8(hI:Inv w0 S0 c){t e:TypeId}{n bb len:Nat}{z:List PV}(hE:E.ty t = .slice e n bb z){parts:Array (Nat × Operand)}{ρ:Operand→PV}{vρ:Operand→Value}(hρ:∀x,aH c (ρ x) (vρ x))
  {els:List (List PV)} (xN:fU n 0 (parts.toList.map fun x=>(x.1,ρ x.2))=some els) (hlen:len=els.length) (hsm:len≤4096) (hn:n≤4096)
  (iZ:∀e∈els,∀p∈e,gR c.rows p) :
  ∃b7,(Instr.buildSlice t len (parts.map fun(i,x)=>(i,vρ x))).run E.P c.w = .ok (.slice (some ⟨c.w.heap.size,0,none⟩) len len) (c.w.alloc (.cells b7 e))∧b7.size=len*n∧a9 (aN c) els.flatten b7.toList∧(∀u∈b7.toList,u.oneCell'=true)∧(∀e∈els,e.length=n)∧0<n:=by
 obtain⟨hu,hnp,DH,i,zv,hi,hz,hs,_,KN,_⟩:=eN hE
 obtain⟨g1,g2,g3⟩:=lZ xN
 have N5:parts.size=els.length:=by rw [g1];simp
 have arL:zv.cells.size=n:=by rw [←DH,←KN];simp
 have BN:∀j (x:Nat × Value),((parts.map fun(i,x)=>(i,vρ x)).toList)[j]? = some x→x.1=0+j ∧ ∃e,els[j]? = some e∧a9 (aN c) e x.2.cells.toList ∧ ∀u∈x.2.cells.toList,u.oneCell'=true:=by
  intro j x hx
  simp at hx
  obtain⟨a,b,fN,rfl⟩:=hx
  obtain⟨q1,e,q2,q3⟩:=g3 j (a,ρ b) (by simp;exact⟨a,b,fN,rfl,rfl⟩)
  have q4:=kN (hρ b) q3 (fun q hq=>iZ e (List.mem_of_getElem? q2) q hq)
  exact⟨q1,e,q2,q4.1,q4.2⟩
 obtain⟨b7,f1,f2⟩:=xQ (n:=n) (parts.map fun(i,x)=>(i,vρ x)).toList 0 ((Array.range (len*n)).map (zv.cells[· % zv.cells.size]!)) (fun j x hx=>by
  obtain⟨q1,e,q2,q3,_⟩:=BN j x hx
  refine⟨q1,?_⟩
  have:=q3.length
  rw [g2 e (List.mem_of_getElem? q2)]at this
  simpa using this.symm) (by simp [N5,hlen])
 simp only [Nat.zero_mul,List.take_zero,List.nil_append]at f2
 have iC:(Instr.buildSlice t len (parts.map fun(i,x)=>(i,vρ x))).run E.P c.w = .ok (.slice (some ⟨c.w.heap.size,0,none⟩) len len) (c.w.alloc (.cells b7 e)):=by
  have hbound:¬(16777216<len*n):=by
   have:len*n≤4096*4096:=Nat.mul_le_mul hsm hn
   omega
  by_cases h0:len*n=0
  ·have GB:len=0:=by
    rcases Nat.mul_eq_zero.1 h0 with h | h
    ·exact h
    ·omega
   have hp0:parts = #[]:=Array.eq_empty_of_size_eq_zero (by omega)
   subst hp0
   subst GB
   simp [Instr.fill]at f1
   subst f1
   have BO:Array.range 0 = #[]:=rfl
   simp [Instr.buildSlice,run_underlying hu,cI hi,newRow,Instr.fill,BO]
  ·have f1':Instr.fill (fun i=>some (i*n,n)) ((Array.range (len*n)).map (zv.cells[· % zv.cells.size]!)) (parts.toList.map fun x=>(x.1,vρ x.2))=some b7:=by simpa using f1
   simp only [Instr.buildSlice,Sem.run_bind,run_underlying hu,Result.andThen_ok,cI hi,hs]
   simp [h0,hbound,newRow,zeroValue,typeInfo,hi,hz,f1']
 have e3:b7.toList=((parts.map fun(i,x)=>(i,vρ x)).toList.map fun x=>x.2.cells.toList).flatten:=by rw [f2,List.flatMap_def]
 have key:∀(vs:List (Nat × Value)) (es:List (List PV)),vs.length=es.length→(∀(j:Nat) (x:Nat × Value),vs[j]? = some x → ∃e,es[j]? = some e∧a9 (aN c) e x.2.cells.toList ∧ ∀u∈x.2.cells.toList,u.oneCell'=true) →
   a9 (aN c) es.flatten (vs.map fun x=>x.2.cells.toList).flatten ∧ ∀u∈(vs.map fun x=>x.2.cells.toList).flatten,u.oneCell'=true:=by
  intro vs
  induction vs with
  | nil =>
   intro es hl _
   have:es = []:=List.eq_nil_of_length_eq_zero hl.symm
   subst this
   exact⟨trivial,by simp⟩
  | cons v vs ih =>
   intro es hl h
   match es,hl with
   | e::es,hl =>
    obtain⟨h1,h2⟩:=ih es (by simpa using hl) fun j x hx=>by simpa using h (j+1) x (by simpa using hx)
    obtain⟨e',q1,q2,q3⟩:=h 0 v (by simp)
    simp at q1;subst q1
    simp only [List.flatten_cons,List.map_cons]
    refine⟨a9.append q2 h1,fun u hu=>?_⟩
    rcases List.mem_append.1 hu with hu | hu
    ·exact q3 u hu
    ·exact h2 u hu
 obtain⟨k1,k2⟩:=key (parts.map fun(i,x)=>(i,vρ x)).toList els (by simp [N5]) fun j x hx=>(BN j x hx).2
 rw [←e3]at k1 k2
 refine⟨b7,iC,?_,k1,k2,g2,hnp⟩
 have h5:=k1.length
 have fl:∀ {l:List (List PV)},(∀e∈l,e.length=n)→l.flatten.length=l.length*n:=by
  intro l
  induction l with
  | nil=>intro _;simp
  | cons e l ih=>intro h;rw [List.flatten_cons,List.length_append,ih (fun e he=>h e (by simp [he])),h e (by simp),List.length_cons,Nat.add_mul];omega
 rw [fl g2,Array.length_toList]at h5
 rw [hlen];exact h5.symm
def A9(E:Env)(o:Oper)(K:PS→Prop)(σ:PS):Prop:=
 match o.op with
 | .buildSlice t len parts =>
  match E.ty t with
  | .slice e n _ _=>∃els,fU n 0 (parts.toList.map fun x=>(x.1,aO σ.f x.2))=some els∧len=els.length∧len≤4096∧n≤4096∧(∀x∈els,∀p∈x,gR σ.rows p) ∧
    DK K σ o.dst (.own (o.dst.getD 0) σ.clock 0 els.length) (o.dst.getD 0) e n els
  | _=>False
 | _=>False
theorem rU{o:Oper}{a:Act}{w:World}{σ:PS}{K:PS→Prop}(h:A9 E o K σ)(hR:Rel w0 S0 m G σ a w)(hd:∀t,o.dst=some t→t<m)
  {K':Act→World→Prop} {Q:Exit→Act→World→Prop} (hK:∀σ' a' w',K σ'→Rel w0 S0 m G σ' a' w'→K' a' w'):o.wp E.P a w K' Q:=by
 obtain⟨⟨c,rfl,hr,eY,hI,hf,hG⟩,hn,eQ⟩:=hR
 have hρ:=kC hf
 obtain⟨dst,op,type,pos,after,guard⟩:=o
 simp only at hd
 unfold A9 at h
 simp only at h
 split at h
 ·rename_i t len parts
  split at h
  ·rename_i e n b z hE
   obtain⟨els,h1,h2,h3,h4,h5,h⟩:=h
   rw [←hr]at h5
   obtain⟨b7,g1,g2,g3,g4,g5,g6⟩:=ac8 hI hE hρ h1 h2 h3 h4 h5
   obtain⟨tV,hA⟩:=uD hI (ver:=σ.clock) (fun hu=>Nat.lt_irrefl _ (eY _ hu)) (dst.getD 0) e n els.length els.length els b7 rfl (Nat.le_refl _) (by simp only [maxLen];omega) (by rw [g2,h2]) (by
    rw [List.take_of_length_le (by rw [Array.length_toList,g2,h2];exact Nat.le_refl _)];exact g3) g4 g5 g6
   obtain⟨f',rows',u4,xU⟩:=oJ (K:=fun f' r'=>K ⟨f',r',σ.clock+1⟩) hr eY hf hG hn eQ h tV hA (jY (r:=⟨σ.clock,e,n,els⟩) (A:=some ⟨c.w.heap.size,0,none⟩) (cap:=els.length) (by simp [dH]) rfl (Or.inl rfl) (by simp [dH])) hd
   unfold Oper.wp
   have:(execOp a.eval { dst:=dst,op:=.buildSlice t len parts,type:=type,pos:=pos,after:=after,guard:=guard }).run E.P c.w = .ok (.value (.slice (some ⟨c.w.heap.size,0,none⟩) els.length els.length)) (c.w.alloc (.cells b7 e)):=by
    rw [h2]at g1
    simp only [execOp,Sem.run_bind,h2,g1,Result.andThen_ok,Sem.run_pure]
   rw [this]
   refine hK _ _ _ u4 (xU.mono fun v hv=>?_)
   show v<σ.clock+1
   rcases hv with rfl | hv
   ·omega
   ·have:v<σ.clock:=hv
    omega
  ·exact h.elim
 ·exact h.elim
theorem lR{ops:Array Oper}{K:PS→Prop}{Q:Exit→Act→World→Prop}{l2:List Oper}(hK:∀σ' a' w',K σ'→Rel w0 S0 m G σ' a' w'→wpList E.P ops Q l2 a' w') :
  ∀(l:List Oper) (σ:PS) (a:Act) (w:World),(∀o∈l,∀t,o.dst=some t→t<m)→aI E ops.toList l K σ→Rel w0 S0 m G σ a w→wpList E.P ops Q (l++l2) a w
 | [],σ,a,w,_,h,hR=>hK _ _ _ h hR
 | o::os,σ,a,w,hd,h,hR=>by
  have hdo:=hd o (by simp)
  have hds:∀o∈os,∀t,o.dst=some t→t<m:=fun o ho=>hd o (by simp [ho])
  have wanted:∀ {σ},dZ E o (aI E ops.toList os K) σ→Rel w0 S0 m G σ a w→o.wp E.P a w (wpList E.P ops Q (os++l2)) Q:=fun hp hR =>
   vD hp hR hdo fun σ' a' w' hk jZ=>lR hK os σ' a' w' hds hk jZ
  show wpList E.P ops Q (o::(os++l2)) a w
  unfold wpList
  simp only [aI]at h
  split at h
  ·rename_i hg
   rw [if_pos (by simp [Region.wanted,hg])]
   exact .inl (wanted h hR)
  ·rename_i j want hg
   split at h
   ·exact h.elim
   ·rename_i d Q8
    have hd3:(ops[j]?).bind (·.dst)=some d:=by simpa using Q8
    have skip:yielded ops a.tmps j≠some want→aI E ops.toList os K (σ.put o.dst (.dX []))→(if Region.wanted o (yielded ops a.tmps)=true then o.wp E.P a w (wpList E.P ops Q (os++l2)) Q∨(o.asks E.P a w∧LetsOut Q)else wpList E.P ops Q (os++l2) (a.put o.dst undef) w):=by
     intro hy h2
     rw [if_neg (by simpa [Region.wanted,hg]using hy)]
     refine lR hK os _ _ w hds h2 ?_
     obtain⟨⟨c,rfl,hr,eY,hI,hf,hG⟩,hn,eQ⟩:=hR
     exact m6 hf hG hn eQ (qE.refl c) hI KZ hdo rfl (by simp [PS.put,hr]) eY
    obtain⟨c,_,_,_,_,hf,_⟩:=hR.ex
    have hx:=hf d
    rcases h with ⟨h1,h2⟩ | ⟨h1 | h1,h2⟩
    ·rw [h1]at hx
     rw [if_pos (by simp [Region.wanted,hg,gG hd3 hx])]
     exact .inl (wanted h2 hR)
    ·rw [h1]at hx
     exact skip (by rw [gG hd3 hx];cases want<;>simp) h2
    ·rw [h1]at hx
     exact skip (by rw [rG hd3 hx];simp) h2
end
theorem W.afs{E:Env}{n:Nat}{tl:Nat→Nat}{Q:PX→PS→Prop}{σ:PS}{id:Nat}{ops:List Oper}{y:Code}(i:Nat){o:Oper}(ho:ops=ops.take i++o::ops.drop (i+1))(hg:o.guard=none)
  (h:∀K:PS→Prop,(∀σ,W E n tl y Q σ→K σ)→go (aI E ops (ops.take i) (fun σ=>A9 E o (aI E ops (ops.drop (i+1)) K) σ) σ)):W E n tl (.seq (.region id ops.toArray false) y) Q σ:=by
 refine W.seq ?_
 intro fG w0 S0 G a w Q' hR hQ
 simp only [eA,oL,Bool.and_eq_true]at fG
 have hd:∀o∈ops,∀t,o.dst=some t→t<n:=fun o ho t ht=>by
  have:=Array.all_eq_true_iff_forall_mem.1 fG.1 o (by simpa using ho)
  simpa [ht]using this
 refine wp_region_list ?_
 show wpList E.P ops.toArray Q' ops a w
 have h1:=h (fun σ=>W E n tl y Q σ) fun _ h=>h
 have mG:o∈ops:=by rw [ho];simp
 have:=lR (E:=E) (w0:=w0) (S0:=S0) (m:=n) (G:=G) (ops:=ops.toArray) (Q:=Q') (l2:=o::ops.drop (i+1)) (K:=fun σ=>A9 E o (aI E ops (ops.drop (i+1)) (fun σ=>W E n tl y Q σ)) σ) (fun σ' a' w' hl jZ=>by
  unfold wpList
  rw [if_pos (by simp [Region.wanted,hg])]
  refine .inl (rU hl jZ (hd o mG) fun σ2 a2 w2 hk hR2=>?_)
  exact fV (E:=E) (ops:=ops.toArray) (fun σ3 a3 w3 hk3 hR3=>hQ .normal σ3 a3 w3 hk3 hR3) _ σ2 a2 w2 (fun o ho=>hd o (List.mem_of_mem_drop ho)) hk hR2) (ops.take i) σ a w (fun o ho=>hd o (List.mem_of_mem_take ho)) h1 hR
 rwa [←ho]at this
def zP(ti:TI)(rows:Rows)(len:Nat)(ps:List (Nat × PV))(K:TypeId→Nat→List (List PV)→Prop):Prop:=
 match ti with
 | .slice e n _ _=>iE n 0 ps fun els=>aE (len=els.length∧len≤4096∧n≤4096∧fW rows els.flatten) (K e n els)
 | _=>False
@[congr] theorem ac9{t t':TI}{rows rows':Rows}{len:Nat}{ps OO:List (Nat × PV)}{K:TypeId→Nat→List (List PV)→Prop}(h:t=t')(h2:ps=OO)(h3:rows=rows'):zP t rows len ps K=zP t' rows' len OO K:=by rw [h,h2,h3]
@[simp] theorem ada{e n b:Nat}{z:List PV}{rows:Rows}{len:Nat}{ps:List (Nat × PV)}{K:TypeId→Nat→List (List PV)→Prop}:zP (.slice e n b z) rows len ps K=iE n 0 ps fun els=>aE (len=els.length∧len≤4096∧n≤4096∧fW rows els.flatten) (K e n els):=rfl
@[simp] theorem arc{E:Env}{K:PS→Prop}{f:Nat→PV}{rows:Rows}{clk:Nat}{d:Option Tmp}{ty:TypeId}{pos:String}{af:Array Edge}{t:TypeId}{len:Nat}{parts:Array (Nat × Operand)} :
  A9 E ⟨d, .buildSlice t len parts,ty,pos,af,none⟩ K ⟨f,rows,clk⟩=zP (E.ty t) rows len (parts.toList.map fun x=>(x.1,aO f x.2)) fun e n els=>K ⟨put f d (.own (d.getD 0) clk 0 els.length),dH rows (d.getD 0) (some ⟨clk,e,n,els⟩),clk+1⟩:=by
 simp only [A9,zP]
 generalize E.ty t=T
 cases T with
 | slice e n b z =>
  simp only
  rw [←uE]
  simp only [aE,DK,fW]
  apply propext
  constructor
  ·rintro⟨els,h1,h2,h3,h4,h5,h6⟩
   exact⟨els,h1,⟨h2,h3,h4,fun q hq=>by obtain⟨x,hx,hq⟩:=List.mem_flatten.1 hq;exact h5 x hx q hq⟩,h6⟩
  ·rintro⟨els,h1,⟨h2,h3,h4,h5⟩,h6⟩
   exact⟨els,h1,h2,h3,h4,fun x hx q hq=>h5 q (List.mem_flatten.2 ⟨x,hx,hq⟩),h6⟩
 | _=>rfl
end Pm
namespace Go.Proofs.YtiobceocpabjdaaGreat
open Go Pm
def rz(a c:ZX):ZX:=ZX.of (rq c.l (a.l.length+1) a.l)
theorem p9{a c:ZX}(hc:c≠0):(rz a c).l=rq c.l (a.l.length+1) a.l∧ZX.N (rz a c)<ZX.N c ∧ ∃(m:Int) (q:ZX),m≠0∧ZX.K m*a=q*c+ZX.K 1*rz a c:=by
 obtain⟨h1,h2,m,q,hm,h3⟩:=P0 c.c (ZX.aF.1 hc) (a.l.length+1) a.l a.c (by omega)
 have e:(rz a c).l=rq c.l (a.l.length+1) a.l:=h1
 refine⟨e,by show(rz a c).l.length<c.l.length;rw [e];exact h2,m,ZX.of q,hm,ZX.ext fun t=>?_⟩
 rw [ZX.dD,ZX.sE,ZX.j3,ZX.dD,ZX.dD,ZX.sE,ZX.MR,e,h3 t];omega
theorem P3{s n:Nat}{a c:ZX}(ha:BZ s n a)(hb:BZ s n c)(hc:c≠0):BZ (s+(ZX.N a+1-ZX.N c)*(s+n+1)) n (rz a c):=by
 have h:=afr hb (ZX.aF.1 hc) (a.l.length+1) (ZX.N a+1-ZX.N c) s a.l ha (by show ZX.N a+1≤ZX.N c+_;omega)
 rw [←(p9 hc).1]at h
 exact h
theorem TE{s n C:Nat}{a c:ZX}(b:BZ s n a)(b':BZ s n c)(hP:wQ C n s (nf a) (nf c))(hn:n≤20)(hC:C≤4500000000)(h1:1≤s):aL env.P 203 [PI a.l,PI c.l] (PI (gz a c).l):=by
 have hs:=hP.le
 have p1:=jR b h1 (by show s≤137438953472;omega) (by omega)
 have p2:=jR b' h1 (by show s≤137438953472;omega) (by omega)
 have b1:=b.nf
 have b2:=b'.nf
 have hg:gz (nf a) (nf c)=gz a c:=by rw [afm,MT]
 have hx1:=PQ a
 rw [←hg]
 generalize nZ:nf a=x0 at *
 generalize L5:nf c=y0 at *
 generalize hG:gz x0 y0=G at *
 refine cH [(0,PI a.l),(1,PI c.l)] Tryz.func203 ?_
 generalize a.l=al at *
 generalize c.l=cl at *
 refine aA [0,1] ?_
 refine jM ?_
 refine cX p1 ?_
 refine cV [0,1] p2 ?_
 refine W.seq ?_
 refine W.block ?_
 refine W.bC (fun k σ=>∃(x y:ZX) (s:Nat) (rows:Pm.Rows) (clk:Nat),σ=⟨fa [(0,PI x.l),(1,PI y.l)],rows,clk⟩∧BZ s n x∧BZ s n y∧1≤s∧wQ C n s x y∧gz x y=G∧nf x=x∧nf y=y∧k=ZX.N y) (ZX.N y0) ?_ ?_
 ·exact⟨_, .refl,x0,y0,s,_,_,rfl,b1,b2,h1,hP,hG,hx1,by rw [←L5,PQ],rfl⟩
 rintro k _ ⟨x,y,s,rows,clk,rfl,bx,p7,h1,hp,hgz,hnx,hny,rfl⟩
 have hs:=hp.le
 have hlx:=bx.len
 have hly:=p7.len
 refine aR [0,1,11] ?_
 refine bP ?_ ?_<;>intro h
 ·have hy:y≠0:=ZX.aF.2 (by show 0<y.l.length;simp at h;omega)
  obtain⟨R7,hN,m,q,hm,e⟩:=p9 (a:=x) hy
  have br:=P3 bx p7 hy
  have hmul:(x.l.length+1-y.l.length+1)*(s+n+1)≤22*4500000000:=Nat.mul_le_mul (by omega) (by omega)
  have aft:(ZX.N x+1-ZX.N y)*(s+n+1)≤22*4500000000:=Nat.mul_le_mul (by have:ZX.N x=x.l.length:=rfl;omega) (by omega)
  have hR:=CU (s:=s) (s':=s) (N:=n) bx p7 x.c y.c (ZX.aF.1 hy) (by omega) (by show _<137438953472;omega)
  rw [←R7]at hR
  have pr:=jR br (by omega) (by show _≤137438953472;omega) (by omega)
  have O5:ZX.N (nf (rz x y))<ZX.N y:=by rw [wP];exact hN
  have hp2:=hp.step O5
  have sI:=EZ hm (show (1:Int)≠0 by decide) e
  rw [←MT y (rz x y)]at sI
  have br2:=br.nf
  have hnn:=PQ (rz x y)
  generalize (rz x y).l=rl at *
  generalize nf (rz x y)=r2 at *
  refine W.skip ?_
  refine W.block ?_
  refine W.cG (fun K hK=>?_)
  simp (disch:=omega) [gw]
  refine cX hR ?_
  refine cX pr ?_
  refine hK _ ⟨ZX.N r2,_,aD _ [0,1],O5,y,r2,_,_,_,rfl,p7.mono (by omega) (Nat.le_refl _),br2,by omega,hp2,by rw [←sI,hgz],hny,hnn,rfl⟩
 ·have hy:y=0:=by
   refine Classical.byContradiction fun h0=>?_
   have h1:=ZX.aF.1 h0
   have h2:ZX.N y=y.l.length:=rfl
   simp at h;rw [h2,h]at h1;simp at h1
  subst hy
  rw [pZ,hnx]at hgz
  subst hgz
  refine fC ?_
  refine aA [4] ?_
  exact cR
theorem TF{h h' n:Nat}{a c:ZX}(b:BZ h n a)(b':BZ h' n c)(h1:1≤h)(ha:Nf a)(hc:Nf c)(hd:ZX.dv c a)(hB:h+(n+1)*(h'+n+2)+h'+n+n+10<137438953472):aL env.P 256 [PI a.l,PI c.l] (.dX [PI (qz a c).l,PI []]):=by
 obtain⟨hw,e⟩:=lO ha hc hd
 have hD:=IQ a.l c.l b b' a.c c.c (ZX.aF.1 hc.ne) h1 hB
 obtain⟨e1,e2⟩:=Y2 (q:=(qz a c).l) a.c c.c (ZX.aF.1 hc.ne) (qz a c).c fun t=>by
  conv=>lhs;rw [e]
  rw [ZX.dD]
 rw [e1,e2,qW,qW,qW]at hD
 exact hD
def zq(a:ZX):List PV:=[PI a.l]
@[simp] theorem atX{a:ZX}:zq a = [PI a.l]:=rfl
@[simp] theorem alh{l:List ZX}:bB 1 (emap zq l)=True:=cJ fun _=>rfl
@[simp] theorem aiV{v e n:Nat}{l:List ZX}:cK (some ⟨v,e,n,emap zq l⟩)=True:=cC fun _=>rfl
@[simp] theorem atY{l:List ZX}{a:ZX}:emap zq l ++ [[aQ ri a.l]]=emap zq (l ++ [a]):=by simp [emap]
theorem tY.qd{s n:Nat}{a c d:ZX}(h:tY s n a)(h1:1≤s)(ha:Nf a)(hc:Nf c)(hd:Nf d)(hca:ZX.dv c a)(hdc:ZX.dv d c):aL env.P 256 [PI c.l,PI d.l] (.dX [PI (qz c d).l,PI []])∧aL env.P 78 [PI (qz c d).l] (PI (qz c d).l):=by
 have b:=h.dv ha hc hca
 have b2:=h.dv ha hd (hdc.trans hca)
 have hq:=h.vY
 have hn:=h.hn
 obtain⟨hw,e⟩:=lO hc hd hdc
 have bq:=h.dv ha hw ((ZK hc hd hdc).trans hca)
 have hm:(n+1)*(qb s n+n+2)≤21*4500000000:=Nat.mul_le_mul (by omega) (by omega)
 have aiW:1≤qb s n:=by unfold qb;omega
 refine⟨TF b b2 aiW hc hd hdc (by omega),?_⟩
 have:=jR bq aiW (by show _≤137438953472;omega) (by omega)
 rwa [hw.nfe]at this
theorem tY.qgd{s n:Nat}{a c:ZX}(h:tY s n a)(ha:Nf a)(hc:Nf c)(hd:ZX.dv c a):aL env.P 160 [PI c.l] (PI (ZX.b6 c).l)∧aL env.P 203 [PI c.l,PI (ZX.b6 c).l] (PI (gd c).l):=by
 have b:=h.dv ha hc hd
 have b2:=b.b6 (by have:=h.hn;omega)
 have hq:=h.vY
 have hn:=h.hn
 have aiW:1≤qb s n:=by unfold qb;omega
 refine⟨tK b (by show _≤137438953472;omega) (by omega),TE (s:=qb s n+5) (b.mono (by omega) (Nat.le_refl _)) b2 ?_ h.hn (C:=4500000000) (Nat.le_refl _) (by omega)⟩
 have hN:=ZX.n4 c
 have h1:ZX.N c≤n:=b.N
 have h2:=ZX.aF.1 hc.ne
 unfold wQ
 rw [wP,wP,if_pos (by omega)]
 refine Nat.le_trans (Nat.mul_le_mul (show qb s n+5+n+1≤qb s n+n+6 by omega) (Nat.pow_le_pow_right (by decide) h1)) h.hC
theorem E4{s n:Nat}{a:ZX}(h:tY s n a)(h1:1≤s):aL env.P 207 [PI a.l] (aQ zq (fl (nf a))):=by
 have hqb:=h.vY
 have hn:=h.hn
 have tX:s≤4500000000:=by unfold qb at hqb;omega
 have p1:=jR h.bz h1 (by show s≤137438953472;omega) (by omega)
 have hA:=h.nfz
 have hNa:ZX.N a=a.l.length:=rfl
 have YF:=wP a
 have hle:=afp (nf a)
 have hNA:ZX.N (nf a)≤n:=hA.bz.N
 refine cH [(0,PI a.l)] Tryz.func207 ?_
 refine aA [0] ?_
 refine aR [0,2,15] ?_
 refine bP ?_ ?_<;>intro h
 ·have h2:ZX.N a≤1:=by simp at h;omega
  have h3:fl (nf a) = []:=by unfold fl;rw [I5 (by rw [YF];exact h2)];rfl
  rw [h3]
  refine aA [2] ?_
  refine W.R3 2 (aQ zq []) (by simp) rfl (fun K hK=>?_)
  refine W.lw [2] hK ?_;clear hK K;simp
  exact cR
 have h2:2≤ZX.N a:=by simp at h;omega
 have nA:Nf (nf a):=lN (ZX.aF.2 (by omega))
 clear h
 generalize nf a=A at *
 obtain⟨m,hm⟩:∃m,m=nl A:=⟨_,rfl⟩
 have hfl:fl A=(List.range m).map (zM A):=by rw [hm];rfl
 rw [hfl]
 refine W.skip ?_
 refine a7 [0] p1 ?_
 refine aA [0,3] ?_
 refine W.afs 1 rfl rfl (fun K hK=>?_)
 simp (disch:=omega) [gw]
 refine W.lw [3,4] hK ?_;clear hK K;simp
 refine W.seq ?_
 refine W.block ?_
 refine W.bC (fun k σ=>∃(i ver:Nat) (rows:Pm.Rows) (clk:Nat),σ=⟨fa [(3, .nil),(4, .own 19 ver 0 (i+1))],rows,clk⟩∧rows 19=some ⟨ver,46,1,emap zq ((List.range (i+1)).map (gs A))⟩∧i+k=m) m ?_ ?_
 ·exact⟨_, .refl,0,_,_,_,rfl,by simp [emap,gs],by omega⟩
 rintro k _ ⟨i,ver,rows,clk,rfl,hr,XZ⟩
 have sC:((List.range (i+1)).map (gs A)).length=i+1:=by simp
 have zS:nth ((List.range (i+1)).map (gs A)) i=gs A i:=l9 _ (by omega)
 have er:(List.range (i+1+1)).map (gs A)=(List.range (i+1)).map (gs A) ++ [gs A (i+1)]:=by rw [List.range_succ,List.map_append];rfl
 have e1:((i:Int)+1-1).toNat=i:=by omega
 generalize hL:(List.range (i+1)).map (gs A)=L at *
 refine W.seq ?_
 refine W.sr ?_
 simp (disch:=omega) [gw,hr,sC,zS]
 refine bM [3,4,27] ?_
 refine bP ?_ ?_<;>intro h
 ·have h3:2≤ZX.N (gs A i):=by
   have h4:ZX.N (gs A i)=(gs A i).l.length:=rfl
   simp at h;omega
  clear h
  have hi:i<nl A:=by
   rcases Nat.lt_or_ge i (nl A)with h4 | h4
   ·exact h4
   ·have h5:=(tJ A).1
    rw [show nl A=i by omega]at h5;omega
  obtain⟨t1,t2⟩:=hA.qgd nA (lP nA i) (I3 A i)
  rw [show gd (gs A i)=gs A (i+1)from rfl]at t2
  generalize hg:(gs A i).l=g at *
  generalize sI:gs A (i+1)=g2 at *
  refine W.skip ?_
  refine W.block ?_
  refine W.sr ?_
  simp (disch:=omega) [gw,hr,sC,zS,hg]
  refine bM [3,4,5] ?_
  refine W.cG (fun K hK=>?_)
  simp (disch:=omega) [gw]
  refine cX t1 ?_
  refine aC t2 ?_
  simp (disch:=omega) [gw,hr,sC]
  refine hK _ ⟨k-1,_,aD _ [3,4],by omega,i+1,_,_,_,rfl,by rw [er];simp,by omega⟩
 have h3:ZX.N (gs A i)≤1:=by
  have h4:ZX.N (gs A i)=(gs A i).l.length:=rfl
  simp at h;omega
 clear h
 have hi:i=m:=by
  rcases Nat.lt_or_ge i (nl A)with h4 | h4
  ·have:=(tJ A).2 i h4;omega
  ·omega
 subst hi
 have hR:L ++ [(1:ZX)]=(List.range (i+2)).map (gs A):=by
  rw [show(1:ZX)=gs A (i+1)by rw [hm,ZF nA 1]]
  exact er.symm
 have iZ:=I9
 generalize hz:(1:ZX)=z1 at *
 refine fC ?_
 refine jM ?_
 refine aC iZ ?_
 simp (disch:=omega) [gw,hr,sC]
 refine bM [3,4] ?_
 clear hr zS e1 er hL sC
 have hRl:(L ++ [z1]).length=i+2:=by rw [hR];simp
 have zS:∀j,j<i+2→nth (L ++ [z1]) j=gs A j:=fun j hj=>by rw [hR];exact l9 _ hj
 generalize L ++ [z1]=R at *
 have hRt:List.take (i+2) R=R:=List.take_of_length_le (by omega)
 refine W.freeze 19 (by simp) (fun K hK=>?_)
 simp [hRt]
 refine hK _ ?_;clear hK K
 refine W.nil 3 3 46 1 (by simp) (by decide) (fun K hK=>?_)
 refine W.lw [3,4] hK ?_;clear hK K;simp
 refine aR [3,4,6] ?_
 refine W.block ?_
 refine W.bC (fun k σ=>∃(j ver:Nat) (rows:Pm.Rows) (clk:Nat),σ=⟨fa [(3, .own 3 ver 0 j),(4,aQ zq R),(6, .int .i64 j)],rows,clk⟩∧rows 3=some ⟨ver,46,1,emap zq ((List.range j).map (zM A))⟩∧j+k=i) i ?_ ?_
 ·exact⟨_, .refl,0,_,_,_,rfl,by simp [emap],by omega⟩
 clear rows clk ver XZ k
 rintro k _ ⟨j,ver,rows,clk,rfl,hr,hjk⟩
 have hjl:((List.range j).map (zM A)).length=j:=by simp
 refine W.seq ?_
 refine W.sr ?_
 simp (disch:=omega) [gw,hRl]
 refine bM [3,4,6,50] ?_
 refine bP ?_ ?_<;>intro h
 ·have hj:j<i:=by simp at h;omega
  clear h
  have er:(List.range (j+1)).map (zM A)=(List.range j).map (zM A) ++ [zM A j]:=by rw [List.range_succ,List.map_append];rfl
  have n0:=zS j (by omega)
  have n1:=zS (j+1) (by omega)
  have n2:=zS (j+2) (by omega)
  have l0:j<R.length:=by omega
  have l1:j+1<R.length:=by omega
  have l2:j+2<R.length:=by omega
  have e1:((j:Int)+1).toNat=j+1:=by omega
  have e2:((j:Int)+2).toNat=j+2:=by omega
  obtain⟨d1,q1⟩:=hA.qd h1 nA (lP nA j) (lP nA (j+1)) (I3 A j) (vW _)
  obtain⟨d2,q2⟩:=hA.qd h1 nA (lP nA (j+1)) (lP nA (j+2)) (I3 A (j+1)) (vW _)
  obtain⟨d3,q3⟩:=hA.qd h1 nA (gW nA j).1 (gW nA (j+1)).1 (E1 nA j) (PW nA j)
  rw [show qz (gs A j) (gs A (j+1))=wz A j from rfl]at d1 q1
  rw [show qz (gs A (j+1)) (gs A (j+2))=wz A (j+1)from rfl]at d2 q2
  rw [show qz (wz A j) (wz A (j+1))=zM A j from rfl]at d3 q3
  have h0:(nth R j).l=(gs A j).l:=by rw [n0]
  have QU:(nth R (j+1)).l=(gs A (j+1)).l:=by rw [n1]
  have h2':(nth R (j+2)).l=(gs A (j+2)).l:=by rw [n2]
  generalize (gs A j).l=g0 at *
  generalize (gs A (j+1)).l=g1 at *
  generalize (gs A (j+2)).l=g2 at *
  generalize (wz A j).l=w0 at *
  generalize (wz A (j+1)).l=w1 at *
  generalize hF:zM A j=F at *
  generalize hac:(List.range j).map (zM A)=acc at *
  refine kK ?_
  refine W.sd ?_
  simp (disch:=omega) [gw,h0,QU,e1]
  refine cV [3,4,6,7] d1 ?_
  refine W.sd ?_
  simp (disch:=omega) [gw,QU,h2',e1,e2]
  refine cV [3,4,6,7,9] d2 ?_
  refine jM ?_
  refine cX q1 ?_
  refine cX q2 ?_
  refine cV [3,4,6,11] d3 ?_
  refine W.cG (fun K hK=>?_)
  simp (disch:=omega) [gw]
  refine aC q3 ?_
  simp (disch:=omega) [gw,hr,hjl]
  refine W.lw [3,4,6] hK ?_;clear hK K;simp
  refine W.cG (fun K hK=>?_);simp (disch:=omega) [gw]
  refine hK _ ⟨k-1,_,aD _ [3,4,6],by omega,j+1,_,_,_,rfl,by rw [er];simp,by omega⟩
 ·have hj:j=i:=by simp at h;omega
  subst hj
  generalize (List.range j).map (zM A)=acc at *
  have wT:List.take j acc=acc:=List.take_of_length_le (by omega)
  refine fC ?_
  refine W.sr ?_
  simp (disch:=omega) [gw,hr,wT]
  refine bM [2] ?_
  refine W.ret ?_
  simp [go,hr,wT]
theorem tL{s n:Nat}{a:ZX}(h:tY s n a)(h1:1≤s):aL env.P 158 [PI a.l] (PI (sq a).l):=by
 have hqb:=h.vY
 have hn:=h.hn
 have hF:=E4 h h1
 have hA:=h.nfz
 have hNa:ZX.N a=a.l.length:=rfl
 have hsq:ZX.N a≠0→sq a=pf (nf a) (fun _=>true) (nl (nf a)):=fun h0=>by
  have nA:=lN (ZX.aF.2 (Nat.pos_of_ne_zero h0))
  unfold sq
  split
  ·rename_i h2
   rw [I5 (by rw [wP];exact h2),nA.N1 (by rw [wP];exact h2)];rfl
  ·rw [aiN nA]
 have hNf:ZX.N a≠0→Nf (nf a):=fun h0=>lN (ZX.aF.2 (Nat.pos_of_ne_zero h0))
 have hle:=afp (nf a)
 have hNA:ZX.N (nf a)≤n:=hA.bz.N
 have apd:ZX.N a=0→(sq a).l = []:=fun h0=>by
  have h2:a=0:=Classical.byContradiction fun h3=>by have:=ZX.aF.1 h3;omega
  unfold sq
  rw [if_pos (by omega),h2,kI];rfl
 generalize nf a=A at *
 refine cH [(0,PI a.l)] Tryz.func158 ?_
 refine aA [0] ?_
 refine aR [0,2,8] ?_
 refine W.cond ⟨_,rfl,fun h3=>?_,fun h3=>?_⟩
 ·have h0:ZX.N a=0:=by rw [hNa];simp at h3;rw [h3];rfl
  rw [apd h0]
  refine aA [2] ?_
  refine W.R3 2 (PI []) (by simp) rfl (fun K hK=>?_)
  refine W.lw [2] hK ?_;clear hK K;simp
  exact cR
 have h0:ZX.N a≠0:=by rw [hNa];simp at h3;intro h4;exact h3 (List.eq_nil_of_length_eq_zero h4)
 have nA:=hNf h0
 rw [hsq h0]
 clear h3 hsq apd hNf
 have hmul:∀i,aL env.P 199 [PI (pf A (fun _=>true) i).l,PI (zM A i).l] (PI (pf A (fun _=>true) (i+1)).l):=fun i=>by
  have b1:=hA.dv nA (CT nA (fun _=>true) i) (ac2 nA _ i)
  have b2:=hA.dv nA (E0 nA i).1 (ac1 nA i)
  exact SX _ _ _ _ _ _ b1 b2 (by show _<137438953472;omega)
 obtain⟨m,hm⟩:∃m,m=nl A:=⟨_,rfl⟩
 have hfl:fl A=(List.range m).map (zM A):=by rw [hm];rfl
 rw [←hm]at hle ⊢
 rw [hfl]at hF
 have KP:((List.range m).map (zM A)).length=m:=by simp
 have zS:∀i,i<m→(nth ((List.range m).map (zM A)) i).l=(zM A i).l:=fun i hi=>by rw [l9 _ hi]
 generalize (List.range m).map (zM A)=L at *
 have h1:=I9
 rw [show(1:ZX)=pf A (fun _=>true) 0 from rfl]at h1
 generalize hg:pf A (fun _=>true) 0=g0 at *
 refine W.skip ?_
 refine a7 [0,3] h1 ?_
 refine a7 [3,4] hF ?_
 refine W.seq ?_
 refine W.sr ?_
 simp (disch:=omega) [gw,KP]
 refine bM [3,4,14,15] ?_
 subst hg
 refine W.block ?_
 refine W.bC (fun k σ=>∃(i:Nat) (rows:Pm.Rows) (clk:Nat),σ=⟨fa [(3,PI (pf A (fun _=>true) i).l),(4,aQ zq L),(14, .int .i64 m),(15, .int .i64 i)],rows,clk⟩∧i+k=m) m ?_ ?_
 ·exact⟨_, .refl,0,_,_,rfl,by omega⟩
 rintro k _ ⟨i,rows,clk,rfl,XZ⟩
 refine cL [3,4,14,15,16] ?_
 refine bP ?_ ?_<;>intro h
 ·have hi:i<m:=by simp at h;omega
  have hiL:i<L.length:=by omega
  have ht:=hmul i
  have JA:=zS i hi
  generalize sI:pf A (fun _=>true) (i+1)=g2 at *
  generalize pf A (fun _=>true) i=g at *
  refine kK ?_
  refine aA [3,4,5,14,15] ?_
  refine W.cG (fun K hK=>?_)
  simp (disch:=omega) [gw,JA]
  refine cX ht ?_
  refine W.lw [3,4,14,15] hK ?_;clear hK K;simp
  subst sI
  refine W.cG (fun K hK=>?_);simp (disch:=omega) [gw]
  refine hK _ ⟨k-1,_,aD _ [3,4,14,15],by omega,i+1,_,_,rfl,by omega⟩
 ·have hi:i=m:=by simp at h;omega
  subst hi
  refine fC ?_
  refine aA [2] ?_
  exact cR
abbrev R2(n d:Int):PV:=.ag [aQ aG (aY DD n.natAbs), .bool (decide (n<0)),aQ aG (aY DD d.natAbs), .bool (decide (d<0))]
theorem eP(q:Rat):RR q=R2 q.num q.den:=by
 have:decide ((q.den:Int)<0)=false:=decide_eq_false (by omega)
 show PV.ag (re q)=PV.ag _
 rw [this];rfl
def hm(n d:Int):List Int→Int × Int
 | []=>(0,1)
 | a::l=>((hm n d l).1*n+a*(hm n d l).2,(hm n d l).2*d)
def E5(x:List Int)(n d:Int):Int:=(hm n d x).1.sign
theorem afu{s k u:Nat}{n d:Int}(hn:sz 2 n≤u)(hd:sz 2 d≤u)(hu:1≤u):∀ {x:List Int},Bd 2 s k x→sz 2 (hm n d x).1≤s+x.length*(u+1)∧sz 2 (hm n d x).2≤x.length*u+1
 | [],_=>⟨by show sz 2 0≤_;rw [show sz 2 0=0 by decide];omega,by show sz 2 1≤_;exact Nat.le_trans (dN (k:=1) (by decide) (by decide)) (by omega)⟩
 | a::l,h=>by
  obtain⟨h1,h2⟩:=afu hn hd hu (x:=l) ⟨Nat.le_trans (by simp) h.len,fun c hc=>h.sz c (by simp [hc])⟩
  have ha:=h.sz a (by simp)
  have e:(a::l).length*u=l.length*u+u:=by rw [List.length_cons,Nat.add_mul];omega
  have e':(a::l).length*(u+1)=l.length*u+l.length+u+1:=by rw [List.length_cons,Nat.add_mul,Nat.mul_add];omega
  have e'':l.length*(u+1)=l.length*u+l.length:=by rw [Nat.mul_add];omega
  refine⟨?_,?_⟩
  ·have g1:=b5 (b:=2) (by decide) h1 hn
   have g2:=b5 (b:=2) (by decide) ha h2
   have:=l6 (b:=2) (by decide) (Nat.le_trans g1 (Nat.le_max_left _ (s+(l.length*u+1)))) (Nat.le_trans g2 (Nat.le_max_right (s+l.length*(u+1)+u) _))
   refine Nat.le_trans this ?_
   rw [e',e'']
   omega
  ·have:=b5 (b:=2) (by decide) h2 hd
   rw [e]
   exact Nat.le_trans this (by omega)
theorem uQ(p q p' q':Int)(hp:sz 2 p≤YY)(hq:sz 2 q≤YY)(tU:sz 2 p'≤YY)(hq':sz 2 q'≤YY):aL env.P 14 [R2 p q,R2 p' q'] (.int .i64 (dJ (p*q') (p'*q))):=by
 have zz:∀ {x:Int},sz 2 x≤YY→Z x:=fun h=>by simp only [Z,YY]at *;omega
 have s1:=b5 (b:=2) (by decide) hp hq'
 have s2:=b5 (b:=2) (by decide) tU hq
 have m1:=dU p q' (zz hp) (zz hq')
 have m2:=dU p' q (zz tU) (zz hq)
 have c1:=YA (p*q') (p'*q) (by simp only [Z,YY]at *;omega) (by simp only [Z,YY]at *;omega)
 generalize dJ (p*q') (p'*q)=r at *
 generalize p*q'=x1 at *
 generalize p'*q=x2 at *
 refine cH [(0,R2 p q),(1,R2 p' q')] Tryz.func14 ?_
 refine aA [2,3] ?_
 refine sB ?_
 refine cX m1 ?_
 refine cX m2 ?_
 refine cV [4] c1 ?_
 exact cR
theorem pC(p q:Rat)(hp:ZR YY p)(hq:ZR YY q):aL env.P 14 [RR p,RR q] (.int .i64 (dJ (p.num*q.den) (q.num*p.den))):=by
 rw [eP,eP];exact uQ _ _ _ _ hp.n hp.d hq.n hq.d
@[simp] theorem arf:aY DD 1 = [1]:=by decide
theorem TG(x:List Int)(hl:x.length<9223372036854775808):aL env.P 152 [PI x] (.bool true):=by
 refine cH [(0,PI x)] Tryz.func152 ?_
 refine aA [0] ?_
 refine aR [0,5,6] ?_
 refine W.block ?_
 refine W.bC (fun k σ=>∃(i:Nat) (rows:Pm.Rows) (clk:Nat),σ=⟨fa [(0,PI x),(5, .int .i64 x.length),(6, .int .i64 i)],rows,clk⟩∧i+k=x.length) x.length ?_ ?_
 ·exact⟨_, .refl,0,_,_,rfl,by omega⟩
 rintro k _ ⟨i,rows,clk,rfl,hI⟩
 refine cL [0,5,6,7] ?_
 refine bP ?_ ?_<;>intro h
 ·have hi:i<x.length:=by simp at h;omega
  refine kK ?_
  refine aA [0,3,5,6] ?_
  refine W.sr ?_
  simp (disch:=omega) [gw,hi]
  refine bM [0,5,6,27] ?_
  refine bP ?_ ?_<;>intro h
  ·simp at h
   exact absurd rfl h
  ·refine W.skip ?_
   refine W.cG (fun K hK=>?_);simp (disch:=omega) [gw]
   refine hK _ ⟨k-1,_,aD _ [0,5,6],by omega,i+1,_,_,rfl,by omega⟩
 ·refine fC ?_
  refine aA [2] ?_
  exact cR
theorem uR{x:List Int}{n d:Int}{s k u:Nat}(hx:Bd 2 s k x)(hn:sz 2 n≤u)(hd:sz 2 d≤u)(hu:1≤u)(hk:k<1099511627776)(hB:s+k*(u+1)+u<YY):aL env.P 77 [PI x,R2 n d] (.int .i64 (E5 x n d)):=by
 have hl:=hx.len
 have hW:=TG x (by omega)
 have hO:=nJ 1 (by decide) (by decide)
 have zz:∀ {x:Int},sz 2 x≤YY→Z x:=fun h=>by simp only [Z,YY]at *;omega
 have hY:YY=137438953472:=rfl
 have bd:=fun i=>afu (s:=s) (k:=k) (x:=x.drop i) hn hd hu ⟨by simp;omega,fun c hc=>hx.sz c (List.mem_of_mem_drop hc)⟩
 have hle:∀i,(x.drop i).length*(u+1)≤k*(u+1):=fun i=>Nat.mul_le_mul_right _ (by simp;omega)
 have ZP:∀i,(x.drop i).length*u≤(x.drop i).length*(u+1):=fun i=>Nat.mul_le_mul_left _ (by omega)
 have step:∀i,i<x.length→hm n d (x.drop i)=((hm n d (x.drop (i+1))).1*n+nth x i*(hm n d (x.drop (i+1))).2,(hm n d (x.drop (i+1))).2*d):=fun i hi=>by
  rw [List.drop_eq_getElem_cons hi,bZ hi];rfl
 have ZQ:hm n d (x.drop x.length)=(0,1):=by rw [List.drop_length];rfl
 have hS:=CF (hm n d x).1
 have h0:hm n d (x.drop 0)=hm n d x:=rfl
 have hs:E5 x n d=(hm n d x).1.sign:=rfl
 rw [hs]
 have M:∀i,i<x.length→aL env.P 63 [RI (hm n d (x.drop (i+1))).1,RI n] (RI ((hm n d (x.drop (i+1))).1*n))∧aL env.P 63 [RI (nth x i),RI (hm n d (x.drop (i+1))).2] (RI (nth x i*(hm n d (x.drop (i+1))).2)) ∧
   aL env.P 154 [RI ((hm n d (x.drop (i+1))).1*n),RI (nth x i*(hm n d (x.drop (i+1))).2)] (RI (hm n d (x.drop i)).1)∧aL env.P 63 [RI (hm n d (x.drop (i+1))).2,RI d] (RI (hm n d (x.drop i)).2):=fun i hi=>by
  obtain⟨b1,b2⟩:=bd (i+1)
  have l1:=hle (i+1)
  have l2:=ZP (i+1)
  have ha:=hx.sz _ (bR hi)
  have g1:=b5 (b:=2) (by decide) b1 hn
  have g2:=b5 (b:=2) (by decide) ha b2
  have e:=step i hi
  rw [e]
  exact⟨dU _ _ (zz (by omega)) (zz (by omega)),dU _ _ (zz (by omega)) (zz (by omega)),y3 _ _ (by simp only [Z];omega) (by simp only [Z];omega),dU _ _ (zz (by omega)) (zz (by omega))⟩
 clear bd hle ZP step
 generalize hm n d x=r0 at *
 refine cH [(0,PI x),(1,R2 n d)] Tryz.func77 ?_
 refine aA [0,3] ?_
 refine W.seq ?_
 refine a7 [0,3,10] hW ?_
 refine bP ?_ ?_<;>intro h
 ·simp at h
 refine W.skip ?_
 refine aA [0,3,5] ?_
 refine a7 [0,3,5,6] hO ?_
 refine aR [0,3,5,6,7] ?_
 refine W.row (id:=5) (els:=[[.nil, .bool false]]) [[aQ aG (aY DD (0:Int).natAbs), .bool (decide ((0:Int)<0))]] (by simp;first | exact⟨rfl,rfl,rfl⟩ | exact⟨rfl,rfl⟩ | rfl) ⟨⟨.inr ⟨rfl,rfl⟩, .inl rfl,trivial⟩,trivial⟩ ?_
 refine W.block ?_
 refine W.bC (fun k σ=>∃(v3 v5 v6 e3 e5 e6:Nat) (rows:Pm.Rows) (clk:Nat),σ=⟨fa [(0,PI x),(3, .ptr 3 v3 0 0),(5, .ptr 5 v5 0 0),(6, .ptr 6 v6 0 0),(7, .int .i64 ((k:Int)-1))],rows,clk⟩∧k≤x.length ∧
  rows 3=some ⟨v3,e3,4,[[aQ aG (aY DD n.natAbs), .bool (decide (n<0)),aQ aG (aY DD d.natAbs), .bool (decide (d<0))]]⟩ ∧
  rows 5=some ⟨v5,e5,2,[[aQ aG (aY DD (hm n d (x.drop k)).1.natAbs), .bool (decide ((hm n d (x.drop k)).1<0))]]⟩ ∧
  rows 6=some ⟨v6,e6,2,[[aQ aG (aY DD (hm n d (x.drop k)).2.natAbs), .bool (decide ((hm n d (x.drop k)).2<0))]]⟩) x.length ?_ ?_
 ·exact⟨_, .refl,_,_,_,_,_,_,_,_,rfl,Nat.le_refl _,by simp;(first | exact⟨rfl,rfl,rfl⟩ | exact⟨rfl,rfl⟩ | rfl),by rw [ZQ];simp;(first | exact⟨rfl,rfl,rfl⟩ | exact⟨rfl,rfl⟩ | rfl),by rw [ZQ];simp;(first | exact⟨rfl,rfl,rfl⟩ | exact⟨rfl,rfl⟩ | rfl)⟩
 rintro k _ ⟨v3,v5,v6,e3,e5,e6,rows,clk,rfl,hkl,lJ,lK,l8⟩
 refine aR [0,3,5,6,7,21] ?_
 refine bP ?_ ?_<;>intro h
 ·have sL:0<k:=by simp at h;omega
  obtain⟨k,rfl⟩:∃j,k=j+1:=⟨k-1,by omega⟩
  obtain⟨m1,m2,m3,m4⟩:=M k (by omega)
  generalize hm n d (x.drop (k+1))=A at *
  have e1:(((k+1:Nat):Int)-1).toNat=k:=by omega
  refine kK ?_
  refine W.sd ?_
  simp (disch:=omega) [gw,lJ,lK,l8]
  refine aC m1 ?_
  simp (disch:=omega) [gw,e1]
  try simp (disch:=omega) [gw,e1,l8]
  refine cX m2 ?_
  refine aC m3 ?_
  simp (disch:=omega) [gw,lK]
  try (refine cU (by kernel_rfl) ?_)
  try simp (disch:=omega) [gw,lK]
  refine bM [0,3,5,6,7] ?_
  refine W.cG (fun K hK=>?_)
  simp (disch:=omega) [gw,lJ,l8]
  refine aC m4 ?_
  simp (disch:=omega) [gw,l8]
  refine W.lw [0,3,5,6,7] hK ?_;clear hK K;simp
  refine W.cG (fun K hK=>?_);simp (disch:=omega) [gw]
  refine hK _ ⟨k,_,aD _ [0,3,5,6,7],by omega,v3,v5,v6,_,_,_,_,_,rfl,by omega,by simp [lJ];exact rfl,by simp;exact rfl,by simp;exact rfl⟩
 ·have sL:k=0:=by simp at h;omega
  subst sL
  rw [h0]at lK
  refine fC ?_
  refine W.sr ?_
  simp (disch:=omega) [gw,lK]
  refine cV [4] hS ?_
  exact cR
end Go.Proofs.YtiobceocpabjdaaGreat
namespace Go.Proofs.YtiobceocpabjdaaGreat
open Go Pm
open ZX hiding N W
theorem ZS{y:List Int}(cy:Cn y)(hy:0<y.length):∀(n:Nat) (x:List Int),Cn x→x.length<n → ∃(m:Int) (q:List Int),0<m ∧ ∀t,m*V t x=V t q*V t y+V t (rq y n x)
 | 0,x,_,h=>by omega
 | n+1,x,cx,h=>by
  rw [rq]
  split
  ·exact⟨1,[],by decide,fun t=>by simp [V]⟩
  ·rename_i h1
   have hl:=p8 hy (show y.length≤x.length by omega)
   obtain⟨m,q,hm,h4⟩:=ZS cy hy n (PY y x) (Cn.eE _ _) (by omega)
   have GB:=cM cy hy
   refine⟨m*(lead y).natAbs,gB q (aX (n6 (x.length-y.length) (tZ (lead y)*lead x)) m),Int.mul_pos hm (by omega),fun t=>?_⟩
   have h5:=ZO t y x
   have h6:=h4 t
   rw [oT,b8,lI]
   have:m*((lead y).natAbs:Int)*V t x=m*(((lead y).natAbs:Int)*V t x):=by grind
   rw [this,h5]
   grind
theorem ZT{x y s q:List Int}{D:Int}(cx:Cn x)(cy:Cn y)(hy:0<y.length)(cs:Cn s)(hs:s.length<y.length)(hD:0<D)(hv:∀t,D*V t x=V t q*V t y+V t s):II x y=iX s:=by
 have hV:=fun t=>XE t x y
 have hl:=EC (a:=x) hy
 obtain⟨c1,c2⟩:=yN (b:=y) cx
 rw [YK cx]
 have GB:=cM cy hy
 have uI:lead y^iH x y≠0:=Int.pow_ne_zero GB
 have hsg:=YI (lead y) (iH x y)
 have hsq:=YJ (lead y) (iH x y)
 generalize sg (lead y) (iH x y)=g at *
 generalize (vK x y).1=p at *
 generalize (vK x y).2=r at *
 generalize hc:lead y^iH x y=c at *
 have hm:0<((lead y).natAbs:Int)^iH x y:=Int.pow_pos (by omega)
 generalize ((lead y).natAbs:Int)^iH x y=m at *
 have e:∀t,V t (eE (s.map (· * c)) (r.map (· * D)))=V t y*V t (eE (p.map (· * D)) (q.map (· * c))):=fun t=>by
  have h1:=hv t
  have h2:=hV t
  rw [gO,gO,dE,dE,dE,dE]
  have h3:c*(D*V t x)=c*(V t q*V t y+V t s):=by rw [h1]
  have h4:D*(V t p*V t y+V t r)=D*(c*V t x):=by rw [h2]
  grind
 have h1:=B7 (Cn.eE _ _) cy hy e (by
  have:=sW (s.map (· * c)) (r.map (· * D))
  simp only [List.length_map]at this
  omega)
 have CN:D≠0:=by omega
 have e1:s.map (· * c)=r.map (· * D):=Cn.ext (jO cs uI) (jO c2 CN) fun t=>IX (by rw [h1];rfl) t
 rw [←vP cs hm,←vP (Cn.aX r g) hD]
 congr 1
 refine Cn.ext (Cn.aX _ _) (Cn.aX _ _) fun t=>?_
 have e2:V t s*c=V t r*D:=by rw [←dE,e1,dE]
 rw [b8,b8,b8]
 have h5:m=g*c:=by rw [hsg];grind
 rw [h5]
 have:V t s*(g*c)=g*(V t s*c):=by grind
 rw [this,e2];grind
def oB(a:ZX):ZX:=⟨iX a.l,Cn.cut _⟩
def nx(a b:ZX):ZX:=⟨fK (iX (rz a b).l),Cn.fK _⟩
theorem TH{a b:ZX}(hb:b≠0):ZX.N (nx a b)<ZX.N b:=by
 obtain⟨_,hN,_⟩:=p9 (a:=a) hb
 have h1:=IL (iX (rz a b).l)
 have h2:=kW (rz a b).l
 have h3:ZX.N (nx a b)=(fK (iX (rz a b).l)).length:=rfl
 have h4:ZX.N (rz a b)=(rz a b).l.length:=rfl
 omega
theorem P4{s n:Nat}{a b:ZX}(ha:BZ s n a)(hb:BZ s n b)(h0:b≠0):BZ (s+(ZX.N a+1-ZX.N b)*(s+n+1)) n (nx a b):=Bd.fK (jC (P3 ha hb h0))
def rV:Nat→ZX→ZX→List ZX
 | 0,_,_=>[]
 | k+1,a,b=>if ZX.N b=0 then []else b::rV k b (nx a b)
theorem jD(k:Nat)(a:ZX):rV k a 0 = []:=by cases k<;>simp [rV,show ZX.N 0=0 by decide]
theorem zT:∀ {k j:Nat} {a b:ZX},ZX.N b≤k→ZX.N b≤j→rV k a b=rV j a b
 | 0,j,a,b,h,_=>by
  have:b=0:=Classical.byContradiction fun h0=>by have:=ZX.aF.1 h0;omega
  rw [this,jD,jD]
 | k+1,0,a,b,_,h=>by
  have:b=0:=Classical.byContradiction fun h0=>by have:=ZX.aF.1 h0;omega
  rw [this,jD,jD]
 | k+1,j+1,a,b,h1,h2=>by
  rw [rV,rV]
  split
  ·rfl
  ·rename_i h0
   have:=TH (a:=a) (ZX.aF.2 (Nat.pos_of_ne_zero h0))
   rw [zT (k:=k) (j:=j) (by omega) (by omega)]
def bE(f:ZX):List ZX:=f::rV (ZX.N f) f (oB (b6 f))
theorem aiX(x:List Int):PP (qd x 1)=PI x:=by rw [EN];show PV.sl (emap re (qs x))=PV.sl (emap ri x);rw [y9]
theorem vZ{s n:Nat}{a:ZX}(b:BZ s n a)(tX:1≤s)(hs:s≤YY)(hn:n<1099511627776):aL env.P 159 [PI a.l] (PI (oB a).l):=by
 have:=IP a.l 1 (by decide) b (by exact Nat.le_trans (dN (k:=1) (by decide) (by decide)) tX) a.c tX hs hn
 rw [show((1:Nat):Int)=1 from rfl,aiX]at this
 exact this
structure Ch(s n:Nat)(f:ZX):Prop where
 bz:BZ s n f
 hn:n≤20
 JA:1≤n
 hC:(s+5+n+1)*4^n≤4500000000
theorem Ch.pot{s n:Nat}{f:ZX}(h:Ch s n f):wQ 4500000000 n (s+5) f (oB (b6 f)):=by
 have h1:=n4 f
 have h2:ZX.N (oB (b6 f))≤ZX.N (b6 f):=kW _
 have h3:=h.bz.N
 have hn:=h.JA
 unfold wQ
 split
 ·exact Nat.le_trans (Nat.mul_le_mul_left _ (Nat.pow_le_pow_right (by decide) h3)) h.hC
 ·have h4:ZX.N (oB (b6 f))=0:=by omega
  have h5:=h.hC
  rw [h4,Nat.pow_zero,Nat.mul_one]
  exact Nat.le_trans (Nat.mul_le_mul_left _ (show 2≤4^n from Nat.le_trans (by decide) (Nat.pow_le_pow_right (n:=4) (by decide) hn))) h5
theorem ZU{l:List ZX}{a:ZX}{i:Nat}(h:i<l.length):nth (l ++ [a]) i=nth l i:=by
 simp only [nth,List.getElem?_append_left h]
theorem wB{s n:Nat}{a f:ZX}(hS:aL env.P 158 [PI a.l] (PI f.l))(h:Ch s n f)(h1:1≤s):aL env.P 81 [PI a.l] (aQ zq (bE f)):=by
 have hn:=h.hn
 have hp:=h.pot
 have hs:=hp.le
 have bd:BZ (s+5) n (b6 f):=h.bz.b6 (by omega)
 have d1:=tK h.bz (by show s≤137438953472;omega) (by omega)
 have d2:=vZ bd (by omega) (by show s+5≤137438953472;omega) (by omega)
 have b2:BZ (s+5) n (oB (b6 f)):=jC bd
 have b1:BZ (s+5) n f:=h.bz.mono (by omega) (Nat.le_refl _)
 have O5:ZX.N (oB (b6 f))≤ZX.N f:=Nat.le_trans (kW _) (Nat.le_trans (n4 f) (by omega))
 have hc:bE f=f::rV (ZX.N f) f (oB (b6 f)):=rfl
 rw [zT O5 (Nat.le_refl _)]at hc
 generalize hC:bE f=C at *
 generalize oB (b6 f)=g0 at *
 generalize (b6 f).l=dl at *
 have hfl:f.l=f.l:=rfl
 refine cH [(0,PI a.l)] Tryz.func81 ?_
 refine aA [0] ?_
 refine a7 [3] hS ?_
 refine W.afs 1 rfl rfl (fun K hK=>?_)
 simp (disch:=omega) [gw]
 refine W.lw [3,4] hK ?_;clear hK K;simp
 refine jM ?_
 refine cX d1 ?_
 refine cV [4,5] d2 ?_
 refine W.seq ?_
 refine W.block ?_
 refine W.bC (fun k σ=>∃(L:List ZX) (x g:ZX) (i ver s:Nat) (rows:Pm.Rows) (clk:Nat),σ=⟨fa [(4, .own 9 ver 0 (i+1)),(5,PI g.l)],rows,clk⟩∧rows 9=some ⟨ver,46,1,emap zq L⟩∧L.length=i+1∧nth L i=x ∧
  L++rV k x g=C∧k=ZX.N g∧BZ s n x∧BZ s n g∧1≤s∧wQ 4500000000 n s x g∧i+ZX.N g≤20) (ZX.N g0) ?_ ?_
 ·exact⟨_, .refl,[f],f,g0,0,_,s+5,_,_,rfl,by simp [emap],rfl,rfl,hc.symm,rfl,b1,b2,by omega,hp,by have:=b2.N;omega⟩
 rintro k _ ⟨L,x,g,i,ver,s,rows,clk,rfl,hr,hL,hx,UH,rfl,bx,bg,h1,hp,hiN⟩
 have hs:=hp.le
 have hlx:=bx.len
 have hlg:=bg.len
 have hLl:(emap zq L).length=i+1:=by simp [emap,hL]
 refine aR [4,5,15] ?_
 refine bP ?_ ?_<;>intro h
 ·have hg:g≠0:=ZX.aF.2 (by show 0<g.l.length;simp at h;omega)
  obtain⟨R7,hN,_⟩:=p9 (a:=x) hg
  have br:=P3 bx bg hg
  have hmul:(x.l.length+1-g.l.length+1)*(s+n+1)≤22*4500000000:=Nat.mul_le_mul (by omega) (by omega)
  have aft:(ZX.N x+1-ZX.N g)*(s+n+1)≤22*4500000000:=Nat.mul_le_mul (by have:ZX.N x=x.l.length:=rfl;omega) (by omega)
  have hR:=CU (s:=s) (s':=s) (N:=n) bx bg x.c g.c (ZX.aF.1 hg) (by omega) (by show _<137438953472;omega)
  rw [←R7]at hR
  have hZ:=vZ br (by omega) (by show _≤137438953472;omega) (by omega)
  have hNg:=CK (oB (rz x g)).l ((jC br).mono (by show _≤137438953472;omega) (by omega))
  have e3:fK (oB (rz x g)).l=(nx x g).l:=rfl
  rw [e3]at hNg
  have O5:=TH (a:=x) hg
  have hp2:=hp.step O5
  have bn:=P4 bx bg hg
  have hi:i<L.length:=by omega
  have hx2:nth (L ++ [g]) i=x:=by rw [ZU hi];exact hx
  have apg:i<(L ++ [g]).length:=by simp;omega
  have hch:L ++ [g]++rV (ZX.N (nx x g)) g (nx x g)=C:=by
   rw [←UH]
   obtain⟨j,hj⟩:∃j,ZX.N g=j+1:=⟨ZX.N g-1,by have:=ZX.aF.1 hg;have:ZX.N g=g.l.length:=rfl;omega⟩
   rw [hj,rV,if_neg (by omega),zT (k:=j) (j:=ZX.N (nx x g)) (by omega) (Nat.le_refl _)]
   simp
  generalize (rz x g).l=rl at *
  generalize (oB (rz x g)).l=pl at *
  generalize hnx:nx x g=nn at *
  have hnl:nn.l=nn.l:=rfl
  refine W.skip ?_
  refine W.block ?_
  refine W.sr ?_
  simp (disch:=omega) [gw,hr,hLl]
  refine bM [4,5] ?_
  have e1:((i:Int)+1+1-2).toNat=i:=by omega
  refine W.cG (fun K hK=>?_)
  simp (disch:=omega) [gw,e1,apg,hx2]
  refine cX hR ?_
  refine cX hZ ?_
  refine cX hNg ?_
  refine hK _ ⟨ZX.N nn,_,aD _ [4,5],O5,L ++ [g],g,nn,i+1,_,_,_,_,rfl,by simp,by simp [hL],?_,hch,rfl,bg.mono (by omega) (Nat.le_refl _),bn,by omega,hp2,by omega⟩
  rw [bZ (by simp;omega)]
  simp [←hL]
 ·have hg:g=0:=by
   refine Classical.byContradiction fun h0=>?_
   have h1:=ZX.aF.1 h0
   have h2:ZX.N g=g.l.length:=rfl
   simp at h;rw [h2,h]at h1;simp at h1
  subst hg
  rw [jD,List.append_nil]at UH
  subst UH
  have wT:List.take (i+1) L=L:=List.take_of_length_le (by omega)
  refine fC ?_
  refine aA [2] ?_
  refine W.ret ?_
  simp [go,hr,hLl,wT]
end Go.Proofs.YtiobceocpabjdaaGreat
