/- For every input the law KinOne of chapter 17 returns true, and each argument reads afterwards as it read before. No conditions. -/
import Derived.Test.YtiobceocpabjdaaGreatRows
import Derived.Test.YtiobceocpabjdaaGreatOas
set_option linter.unusedSimpArgs false
set_option linter.unusedVariables false
namespace Go.Proofs.YtiobceocpabjdaaGreat
open Go Pm
open ZX hiding N W
theorem HV{lo hi:Rat}(h:lo≤hi):∀T:List Rat,gY T hi=gY T lo+T.countP fun r=>decide (lo<r∧r≤hi)
 | []=>rfl
 | r::T=>by
  have ih:=HV h T
  unfold gY at ih ⊢
  rw [List.countP_cons,List.countP_cons,List.countP_cons,ih]
  by_cases h1:r≤lo
  ·have h2:r≤hi:=Rat.le_trans h1 h
   have h3:¬(lo<r∧r≤hi):=fun hh=>by grind
   rw [if_pos (decide_eq_true h1),if_pos (decide_eq_true h2),if_neg (fun hh=>h3 (of_decide_eq_true hh))]
   omega
  ·by_cases h2:r≤hi
   ·have h3:lo<r∧r≤hi:=⟨Rat.not_le.1 h1,h2⟩
    rw [if_neg (fun hh=>h1 (of_decide_eq_true hh)),if_pos (decide_eq_true h2),if_pos (decide_eq_true h3)]
    omega
   ·have h3:¬(lo<r∧r≤hi):=fun hh=>h2 hh.2
    rw [if_neg (fun hh=>h1 (of_decide_eq_true hh)),if_neg (fun hh=>h2 (of_decide_eq_true hh)),if_neg (fun hh=>h3 (of_decide_eq_true hh))]
    rfl
noncomputable def nwA(lo:Rat)(f:ZX)(L:List (Rat × Rat))(k:Nat):Nat→A9
 | 0=>gX (dD lo) (lo,lo)
 | i+1=>gX f (nth L (k+i))
noncomputable def kw(c:CE)(f:ZX)(L:List (Rat × Rat))(len k:Nat):WE:=⟨c.t,c.p,c.w,true,decide (k<len),nA f L k⟩
theorem cpS:CpC S19 5 S19 5:=⟨by decide,by decide,by decide,by decide,by decide,by decide,by decide⟩
section
variable {T:List Rat} {p:ZX} (K:Kz T p) (h4:T.length≤4) {lo:Rat} (ql:SQ 5 lo) (sl:lo.num.natAbs≤30∧((lo.den:Int)).natAbs≤6)
include K h4
theorem Kz.nA{k:Nat}(hk:k<T.length):nA (sq p) (eI p) k=gX (sq p) (nth (eI p) k):=if_pos (by have:(eI p).length=T.length:=K.len h4;omega)
theorem Kz.nA'{k:Nat}(hk:¬k<T.length):Go.Proofs.YtiobceocpabjdaaGreat.nA (sq p) (eI p) k=A9.no:=if_neg (by have:(eI p).length=T.length:=K.len h4;omega)
theorem Kz.afo{k:Nat}(c:CE):aE env.P 112 [aJ b9 (LC [kw c (sq p) (eI p) T.length k])] (.dU [.ag (b9 (Go.Proofs.YtiobceocpabjdaaGreat.nA (sq p) (eI p) k)), .bool (decide (k<T.length))]):=by
 by_cases hk:k<T.length
 ·have e:LC [kw c (sq p) (eI p) T.length k] = [gX (sq p) (nth (eI p) k)]:=by simp [LC,kw,hk,K.nA h4 hk]
  rw [e,K.nA h4 hk,decide_eq_true hk]
  exact(K.root h4 hk).least
 ·have e:LC [kw c (sq p) (eI p) T.length k] = []:=by simp [LC,kw,hk]
  rw [e,K.nA' h4 hk,decide_eq_false hk]
  exact aaM
include ql sl
theorem Kz.av0{i:Nat}(hi:gY T lo+i≤T.length):aE env.P 112 [.sl [b9 (nwA lo (sq p) (eI p) (gY T lo) i)]] (.dU [.ag (b9 (nwA lo (sq p) (eI p) (gY T lo) i)), .bool true]) ∧
  aE env.P 206 [Po p.l, .ag (b9 (nwA lo (sq p) (eI p) (gY T lo) i))] (.dU [.ag (b9 (Go.Proofs.YtiobceocpabjdaaGreat.nA (sq p) (eI p) (gY T lo+i))), .bool (decide (gY T lo+i<T.length))]):=by
 cases i with
 | zero=>exact⟨(ptA ql sl).least,K.next h4 (ptA ql sl) avR⟩
 | succ i =>
  have B:=K.root h4 (i:=gY T lo+i) (by omega)
  have:=K.next h4 B cpS
  rw [K.ao6 (by omega)]at this
  exact⟨B.least,this⟩
theorem Kz.step{i:Nat}(hi:gY T lo+i≤T.length){e:Int}{c:CE}(hc:c.p=p.l):g9 env.P 51 [] 95 12 (co true (nwA lo (sq p) (eI p) (gY T lo) i) false [WE.new c] e) (co true (nwA lo (sq p) (eI p) (gY T lo) i) false [kw c (sq p) (eI p) T.length (gY T lo+i)] e) (.dU [.ag (b9 (Go.Proofs.YtiobceocpabjdaaGreat.nA (sq p) (eI p) (gY T lo+i))), .bool (decide (gY T lo+i<T.length))]):=by
 obtain⟨h1,h2⟩:=K.av0 h4 ql sl hi
 have hN:=wP (z:=false) (L:=[WE.new c]) (e:=e) h1
 have hK:=DH (R:=fun _=>(decide (gY T lo+i<T.length),Go.Proofs.YtiobceocpabjdaaGreat.nA (sq p) (eI p) (gY T lo+i))) (by simp) (fun h=>by cases h) hN (fun w hw _=>by
  simp only [List.mem_cons,List.not_mem_nil,or_false]at hw
  subst hw
  rw [show(WE.new c).p=p.l from hc]
  exact h2)
 exact DI (by simp) hK (K.afo h4 c)
omit ql sl in
theorem Kz.again{i:Nat}(hi:gY T lo+i<T.length){n:A9}{e:Int}{c:CE}(hc:c.p=p.l)(hz:c.z=false)(hS:aE env.P 35 [aJ kV [c]] (aJ kV [c])) :
  g9 env.P 109 [.ag (b9 (gX (sq p) (nth (eI p) (gY T lo+i)))), .bool true,aJ kV [c]] 95 12 (co true n false [kw c (sq p) (eI p) T.length (gY T lo+i)] e) (co true (gX (sq p) (nth (eI p) (gY T lo+i))) false [WE.new c] e) (.dU []):=by
 have B:=K.root h4 hi
 have bz:=(K.lay h4).bz
 have hs:=SI (x:=p.l) (y:=p.l) (bz.pb (by decide) (by decide)) (bz.pb (by decide) (by decide))
 rw [decide_eq_true rfl]at hs
 have hq:kpt c (fun _=>true) (fun _=>0) [kw c (sq p) (eI p) T.length (gY T lo+i)]=WE.new c:=by simp [kpt,kw,hi]
 have hk:=afn (b:=true) (n:=n) (z:=false) (L:=[kw c (sq p) (eI p) T.length (gY T lo+i)]) (e:=e) (t:=gX (sq p) (nth (eI p) (gY T lo+i))) (x:=c) (sm:=fun _=>true) (c:=fun _=>0) (by simp) (fun h=>by cases h) hz (fun w hw _ _=>by
  simp only [List.mem_cons,List.not_mem_nil,or_false]at hw
  subst hw
  show aE env.P _ [Po c.p,Po c.p] _
  rw [hc]
  exact hs) (fun w hw _ _ _ _=>by
  simp only [List.mem_cons,List.not_mem_nil,or_false]at hw
  subst hw
  show aE env.P _ [.ag (b9 (Go.Proofs.YtiobceocpabjdaaGreat.nA (sq p) (eI p) (gY T lo+i))),_] _
  rw [K.nA h4 hi]
  have:=B.cmp B cpS
  rwa [PQ]at this)
 have:=JE (G:=WE.new) (C:=[c]) (S:=[c]) (later:=true) (by simp) (fun s hs=>by
  simp only [List.mem_cons,List.not_mem_nil,or_false]at hs
  subst hs;exact hz) hS B.least (fun h=>by cases h) (fun _ s hs=>by
  simp only [List.mem_cons,List.not_mem_nil,or_false]at hs
  subst hs
  exact⟨_,fun _=>rfl,hq▸hk⟩)
 exact this
end
theorem Kz.av1{T:List Rat}{p:ZX}(K:Kz T p)(h4:T.length≤4){c:CE}(hc:c.p=p.l)(hz:c.z=false):aE env.P 35 [aJ kV [c]] (aJ kV [c]):=by
 have bz:=(K.lay h4).bz
 have nN:=eQ (x:=p.l) (bz.pb (by decide) (by decide))
 rw [p.c]at nN
 obtain⟨t,z,x,w⟩:=c
 simp only at hc hz
 subst hc hz
 exact GW (l:=[⟨t,false,p.l,w⟩]) (by simp) (fun x hx=>by
  simp only [List.mem_cons,List.not_mem_nil,or_false]at hx
  subst hx
  exact nN)
theorem ak8{R T:List Rat}{p:ZX}(K:Kz T p)(hR:R.Perm T)(h4:T.length≤4){lo hi:Rat}(hle:lo≤hi)(ql:SQ 5 lo)(sl:lo.num.natAbs≤30∧((lo.den:Int)).natAbs≤6)(qh:SQ 5 hi)(sh:hi.num.natAbs≤30∧((hi.den:Int)).natAbs≤6) :
  ∃t x C S0 S1 S2,KO p.l lo hi (P7 lo hi R) t x C S0 S1 S2:=by
 have hc:(cp p.l).p=p.l:=rfl
 have hz:(cp p.l).z=false:=rfl
 have hw:gY T hi=gY T lo+P7 lo hi R:=by rw [HV hle T,P7,hR.countP_eq]
 have hk1:=UA (T:=T) (t:=hi)
 have hS:=K.av1 h4 hc hz
 have hT:=qh.tor (by decide)
 rw [gC]at hT
 have A:=ptA ql sl
 have H:=ptA qh sh
 generalize P7 lo hi R=w at *
 have q7:SQ 7000 hi:=qh.mono (by decide)
 have q8:SQ (uu S19) hi:=qh.mono (by decide)
 have hcr:=A.cr q7 (Nat.le_refl _) (by decide)
 have hch:=H.cr q7 (Nat.le_refl _) (by decide)
 have ak9:=fun i (h:gY T lo+i<T.length)=>K.root h4 h
 have afm:=fun i (h:gY T lo+i<T.length)=>(ak9 i h).cr q8 (Nat.le_refl _) (by decide)
 have agI:=fun i (h:gY T lo+i<T.length)=>mX (t:=hi) K.GV h
 obtain⟨h1,h2⟩:=K.av0 h4 ql sl (i:=0) (by omega)
 have hX:=fun i (h:gY T lo+i≤T.length)=>K.step h4 ql sl h (e:=i) hc
 have hbe:=GY (JE (b:=false) (n:=A9.no) (z:=true) (L:=[]) (e:=0) (later:=false) (C:=[cp p.l]) (S:=[cp p.l]) (G:=WE.new) (by simp) (fun s hs=>by
  simp only [List.mem_cons,List.not_mem_nil,or_false]at hs
  subst hs;rfl) hS A.least (fun _ _ _=>rfl) (fun h=>by cases h))
 have uH:decide (gY T lo+w<T.length)=true → ∃v:Int,0<v∧aE env.P 111 [.ag (b9 (nA (sq p) (eI p) (gY T lo+w))),RT hi] (.int .i64 v):=fun h=>by
  have dK:gY T lo+w<T.length:=of_decide_eq_true h
  refine⟨_,mA.2 (Rat.not_le.1 fun hh=>?_),by rw [K.nA h4 dK];exact afm w dK⟩
  have:=(agI w dK).2 hh
  omega
 have X9:=adn (K:=w) (S:=fun i=>⟨true,nwA lo (sq p) (eI p) (gY T lo) i,false,[WE.new (cp p.l)],i⟩) (U:=fun i=>⟨true,nwA lo (sq p) (eI p) (gY T lo) i,false,[kw (cp p.l) (sq p) (eI p) T.length (gY T lo+i)],i⟩) (a:=fun i=>gX (sq p) (nth (eI p) (gY T lo+i))) (C:=fun _=>[cp p.l]) (g:=40) (caps:=[.rd [Po p.l]])
  (fun hh=>by have:=mA.1 hh;grind) (by omega) rfl rfl rfl (wP h1) hcr (fun i hi=>by
   have:=hX i (by omega)
   rw [decide_eq_true (show gY T lo+i<T.length by omega),K.nA h4 (show gY T lo+i<T.length by omega)]at this
   exact this) (fun i hi=>⟨_,fun hh=>by
    have h3:=mA.1 hh
    have h4:=(agI i (by omega)).1 (by omega)
    grind,afm i (by omega)⟩) (fun i hi=>(ak9 i (by omega)).least) (fun i hi=>EI) (fun i hi=>⟨_,(i:Int),K.again h4 (i:=i) (by omega) hc hz hS,rfl,by omega,by omega⟩)
  (hX w (by omega)) uH (afh qh (by decide)) rfl
 have hkw:VS (fun _=>(false,A9.no)) (kw (cp p.l) (sq p) (eI p) T.length (gY T lo+w))=kw (cp p.l) (sq p) (eI p) T.length (gY T lo+w):=if_pos rfl
 have hN1:=wP (z:=false) (L:=[kw (cp p.l) (sq p) (eI p) T.length (gY T lo+w)]) (e:=w) H.least
 have hK1:=DH (R:=fun _=>(false,A9.no)) (by simp) (fun h=>by cases h) hN1 (fun y hy hk=>by
  simp only [List.mem_cons,List.not_mem_nil,or_false]at hy
  subst hy
  cases hk)
 rw [List.map_cons,List.map_nil,hkw]at hK1
 have hX1:=DI (by simp) hK1 (K.afo h4 (cp p.l))
 have qZ:=adn (K:=0) (S:=fun _=>⟨true,gX (dD hi) (hi,hi),false,[kw (cp p.l) (sq p) (eI p) T.length (gY T lo+w)],w⟩) (U:=fun _=>⟨true,gX (dD hi) (hi,hi),false,[kw (cp p.l) (sq p) (eI p) T.length (gY T lo+w)],w⟩) (a:=fun _=>A9.no) (C:=fun _=>[]) (g:=40) (caps:=[.rd [Po p.l]])
  (fun hh=>by have:=mA.1 hh;grind) (by decide) rfl rfl rfl hN1 hch (fun i hi=>absurd hi (Nat.not_lt_zero _)) (fun i hi=>absurd hi (Nat.not_lt_zero _)) (fun i hi=>absurd hi (Nat.not_lt_zero _)) (fun i hi=>absurd hi (Nat.not_lt_zero _)) (fun i hi=>absurd hi (Nat.not_lt_zero _)) hX1 uH (afh qh (by decide)) rfl
 exact⟨_,_,_,⟨true,nwA lo (sq p) (eI p) (gY T lo) 0,false,[WE.new (cp p.l)],(0:Nat)⟩,⟨true,gX (dD hi) (hi,hi),false,[kw (cp p.l) (sq p) (eI p) T.length (gY T lo+w)],w⟩,⟨true,gX (dD hi) (hi,hi),false,[kw (cp p.l) (sq p) (eI p) T.length (gY T lo+w)],w⟩,XO sl,ak6 ql sl,hT,hbe,X9,qZ,rfl⟩
theorem UE(l:List Int)(n d m k:Int)(hb:∀x∈l, -9223372036854775808≤x∧x<9223372036854775808)(hl:l.length<9223372036854775808)(hn : -9223372036854775808≤n∧n<9223372036854775808)(hd : -9223372036854775808≤d∧d<9223372036854775808)(hm : -9223372036854775808≤m∧m<9223372036854775808)(hk : -9223372036854775808≤k∧k<9223372036854775808) :
  aE env.P 6 [aJ aI l, .int .i64 n, .int .i64 d, .int .i64 m, .int .i64 k] (.bool true):=by
 have ha:=HI n d hn hd
 have jX:=HI m k hm hk
 rw [gC]at ha jX
 refine PT l n d m k hb hl ha jX (yK n d) (yK m k) fun R T p K hR h4 lo hi hle eW=>?_
 rcases eW with ⟨rfl,rfl⟩ | ⟨rfl,rfl⟩
 ·exact ak8 K hR h4 hle (yK n d) (D4 n d) (yK m k) (D4 m k)
 ·exact ak8 K hR h4 hle (yK m k) (D4 m k) (yK n d) (D4 n d)
end Go.Proofs.YtiobceocpabjdaaGreat
set_option linter.unusedSimpArgs false
set_option linter.unusedVariables false
namespace Go.Proofs.YtiobceocpabjdaaGreat.kinOne
open Go Pm Go.ChangeShapes Go.WideShapes Go.ChangeAt Go.RowKit
theorem aiL:K8 Tryz.prog 3 (fun ps=>∃n:Int,ps=aI n ∧ -9223372036854775808≤n∧n<9223372036854775808):=
  (K8.int .i64 (by kernel_rfl)).mono fun ps ⟨n,h1,h2,h3⟩=>⟨n,h1,by simpa [IntKind.min,IntKind.signed,IntKind.bits]using h2,by simp [IntKind.max,IntKind.signed,IntKind.bits]at h3;omega⟩
theorem afp:uS Tryz.prog 22 (fun q=>∃l:List Int,q=aJ aI l∧(∀x∈l, -9223372036854775808≤x∧x<9223372036854775808)∧l.length<9223372036854775808):=
  (uS.slice (e:=3) (by kernel_rfl) (by rw [show Tryz.prog.cellsOf 3=1 by kernel_rfl];decide) aiL).mono fun q ⟨l,h1,h2,h3⟩=>by
    obtain⟨m,rfl,hm⟩:=maps (g:=aI) (Q:=fun n => -9223372036854775808≤n∧n<9223372036854775808) (fun ps h=>h) h2
    exact⟨m,h1,hm,by rw [List.length_map]at h3;simp only [maxLen]at h3;omega⟩
set_option maxRecDepth 100000 in
theorem lifted(os:Os)(started:os.Started)(H:Type)(enc:TypeId × Value→H) :
    ReturnsInHanded {} Tryz.checked os 6 .any (Rows.kinOneSpec.pre6 enc Tryz.prog Tryz.f6 Rows.kinOneRow.domain false) (Rows.kinOneSpec.post enc Tryz.prog Tryz.f6 false true false false):=by
  refine acO (C:=Tryz.checked) (Qs:=[fun q=>∃l:List Int,q=aJ aI l∧(∀x∈l, -9223372036854775808≤x∧x<9223372036854775808)∧l.length<9223372036854775808,fun q=>∃n:Int,q = .int .i64 n ∧ -9223372036854775808≤n∧n<9223372036854775808,fun q=>∃n:Int,q = .int .i64 n ∧ -9223372036854775808≤n∧n<9223372036854775808,fun q=>∃n:Int,q = .int .i64 n ∧ -9223372036854775808≤n∧n<9223372036854775808,fun q=>∃n:Int,q = .int .i64 n ∧ -9223372036854775808≤n∧n<9223372036854775808]) (tb:=4) own laidOut started (by kernel_rfl) Tryz.func6
    (ChangeSpec.witness6 (enc:=enc) (C:=Tryz.checked) false ⟨#[], #[.slice none 0 0, .int .i64 0, .int .i64 0, .int .i64 0, .int .i64 0],[]⟩ 16 (by kernel_rfl) (by kernel_rfl) (by kernel_rfl) (by kernel_rfl)) rfl ?_ (by kernel_rfl) (by kernel_rfl) ?_ ?_
  · intro ds h
    rw [show Tryz.f6.params.size=5 by kernel_rfl]at h
    match ds,h with
    | [_,_,_,_,_],_=>rfl
  · rw [show Tryz.f6.params.toList = [22,3,3,3,3]by kernel_rfl]
    exact⟨afp,by kernel_rfl,of_decide_eq_true (by kernel_rfl),AX,by kernel_rfl,of_decide_eq_true (by kernel_rfl),AX,by kernel_rfl,of_decide_eq_true (by kernel_rfl),AX,by kernel_rfl,of_decide_eq_true (by kernel_rfl),AX,by kernel_rfl,of_decide_eq_true (by kernel_rfl),trivial⟩
  · rintro ps h
    obtain⟨_,_,rfl,⟨a0,rfl,h0,g0⟩,⟨_,_,rfl,⟨a1,rfl,h1⟩,⟨_,_,rfl,⟨a2,rfl,h2⟩,⟨_,_,rfl,⟨a3,rfl,h3⟩,⟨_,_,rfl,⟨a4,rfl,h4⟩,rfl⟩⟩⟩⟩⟩:=h
    exact UE a0 a1 a2 a3 a4 h0 g0 h1 h2 h3 h4
theorem z1:(Rows.kinOneRow.inPlace==Tryz.pinned.checked.prog.inPlace 6)=true:=by kernel_rfl
theorem z2:(Rows.kinOneRow.unfollowed==Tryz.pinned.checked.prog.unfollowed 6)=true:=by kernel_rfl
theorem z3:(Rows.kinOneRow.recurses==Tryz.pinned.checked.prog.recurses 6)=true:=by kernel_rfl
theorem z4:(Rows.kinOneRow.named==Tryz.pinned.checked.prog.varsNamed 6)=true:=by kernel_rfl
theorem closed:joinedFacts Tryz.pinned.checked.prog 6 Tryz.f6 Rows.kinOneSpec Rows.kinOneRow=true:=by
  unfold joinedFacts
  rw [z1,z2,z3,z4]
  kernel_rfl
theorem proved:Rows.KinOneSaid:=
  OpenClaim.holds_of_wide 6 Tryz.f6 rfl rfl rfl rfl rfl rfl rfl ⟨rfl,rfl,rfl,rfl,rfl⟩ rfl rfl rfl rfl rfl (by kernel_rfl) Tryz.func6 closed
    (of_decide_eq_true (by kernel_rfl)) (by unfold Func.isWrapper;first | (rw [if_pos (by decide +kernel)];kernel_rfl) | (rw [if_neg (by decide +kernel)];exact⟨rfl,rfl⟩))
    (fun os started H enc _=>lifted os started H enc)
#print axioms proved
end Go.Proofs.YtiobceocpabjdaaGreat.kinOne
