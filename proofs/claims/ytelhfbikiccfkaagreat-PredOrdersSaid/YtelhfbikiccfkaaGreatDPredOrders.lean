/- For every input the law PredOrders of chapter 14 returns true, and each argument reads afterwards as it read before. No conditions. -/
import Derived.Test.YtelhfbikiccfkaaGreatRows
import Derived.Test.YtelhfbikiccfkaaGreatDav
set_option linter.unusedSimpArgs false
set_option linter.unusedVariables false
namespace Go.Proofs.YtelhfbikiccfkaaGreat
open Go Pm
open ZX hiding N W
theorem ab5{p:PT}(hp:p.In):(p.c.cut 3 1).Small 3 1:=
 ⟨Sm.auY hp.x 3 1,Sm.auY hp.y 3 1,hp.l.take 1,by show(List.take 1 _).length≤1;simp;omega,by decide,by decide,by decide⟩
theorem apZ{O:List PT}(h:¬O.length<2)(h':O.length≤2):∃a b,O = [a,b]:=by
 match O,h,h' with
 | [],h,_=>simp at h
 | [_],h,_=>simp at h
 | [a,b],_,_=>exact⟨a,b,rfl⟩
 | _::_::_::_,_,h=>simp at h
theorem GG(l:List PT)(n d:Int)(c:List Int)(k:Int)(own:Bool)(h:∀p∈l,p.In ∧ -9223372036854775808≤p.id∧p.id<9223372036854775808)(hl:l.length<9223372036854775808)(hn : -9223372036854775808≤n∧n<9223372036854775808)(hd : -9223372036854775808≤d∧d<9223372036854775808)(hcb:∀x∈c, -9223372036854775808≤x∧x<9223372036854775808)(hc:c.length<9223372036854775808)(hk : -9223372036854775808≤k∧k<9223372036854775808) :
  aD env.P 7 [aG j2 l, .int .i64 n, .int .i64 d,aG aH c, .int .i64 k, .bool own] (.bool true):=by
 have hsm:∀p∈l,(p.c.cut 3 1).Small 3 1:=fun p hp=>ab5 (h p hp).1
 have hP:=RQ (l:=l) (n:=2) (cu:=fun p=>p.c.cut 3 1) hl (.inl rfl) (fun p hp=>by
  have q:=(h p hp).1
  exact aa5 p.c 3 1 q.x.len (fun e he=>(q.x.ok e he).2) q.y.len (fun e he=>(q.y.ok e he).2) q.ll (by decide) (by decide)) (fun _ _=>rfl) (fun e=>absurd e (by decide)) (fun p hp=>WM (U0 (hsm p hp))) (fun p hp=>(h p hp).2)
 obtain⟨o1,o2,o3⟩:=Z0 (cu:=fun p=>p.c.cut 3 1) (n:=2) (l:=l) l [] (fun q hq=>hq) (by simp) (by simp) (by simp)
 generalize pO (fun p=>p.c.cut 3 1) 2 [] l=O at *
 by_cases h2:O.length<2
 ·exact agt hP h2
 obtain⟨a,b,rfl⟩:=apZ h2 o1
 have ka:a.c.Small 3 1:=by obtain⟨p,hp,rfl⟩:=o2 a (by simp);exact hsm p hp
 have kb:b.c.Small 3 1:=by obtain⟨p,hp,rfl⟩:=o2 b (by simp);exact hsm p hp
 have kQ:a.id≠b.id:=by simpa using o3
 obtain⟨f0,p0,hPk,A0,E0,_,_⟩:=agp (l:=c) (k:=k) hc hk
 have hS:=JC n d hn hd
 have q5:=afv n d
 have sb:=VJ n d
 generalize sml n d=t at *
 rw [cS]at hS
 have It:=RL (s:=59) (n:=5) sb (by decide) (by decide) (by decide) (by decide) (by decide) (by decide)
 have hR:=vS (n:=t.num) (d:=t.den) (by omega) (by omega) (by have:=t.den_pos;omega) (tZ t)
 rw [It.sq]at hR
 have agq:aD env.P 45 [R2 t.num t.den] (QA (oN t) (aR (oN t)) (t,t)):=by rw [sF,tZ];exact hR
 obtain⟨At,Et⟩:=al9 (u:=7000) It (by decide) (by rw [AL];decide) (CA t) (q5.mono (by decide)) (by decide)
 obtain⟨f1,L,hT,hL1,amd⟩:∃(f1:ZX) (L:List (Rat × Rat)),aD env.P 38 [PI (XX a b).l] (aG (qa f1 (aR f1)) L)∧L.length<1000000∧(L ≠ []→AN (qb 65 3) 3 (uu (qb 65 3)) f1 (nth L 0)∧Ex f1 (nth L 0)):=by
  by_cases h0:XX a b=0
  ·exact⟨0,[],by rw [h0];exact WN,by decide,fun h=>absurd rfl h⟩
  ·have Lx:sM 65 3 (XX a b):=⟨bX ka kb,by decide,by decide,by decide⟩
   have T:=(av6 Lx h0 (by decide) (by decide) (by decide) (by decide)).apN
   have I:=V8 Lx h0 (by decide) (by decide) (by decide)
   have n8:ZX.N (oz (nf (XX a b)))≤8:=Nat.le_trans I.ch.bz.N (by decide)
   have hlen:=yX I
   refine⟨_,_,T,by rw [List.length_map];omega,fun h=>?_⟩
   have h3:0<(B7 (qb 65 3) 3 (oz (nf (XX a b)))).length:=by
    have:=List.length_pos_iff.2 h
    rwa [List.length_map]at this
   have Z8:nth ((B7 (qb 65 3) 3 (oz (nf (XX a b)))).map (ex (oz (nf (XX a b))))) 0=ex (oz (nf (XX a b))) (nth (B7 (qb 65 3) 3 (oz (nf (XX a b)))) 0):=by
    rw [dE (by rw [List.length_map];exact h3),List.getElem_map,dE h3]
   rw [Z8]
   exact⟨(ZW I (by decide) n8 (bS h3)).2,al5 _ _⟩
 have fin:∀ {s m u:Nat} {f:ZX} {p:Rat × Rat},AN s m u f p→Ex f p→SzC s m 65 3→(own=true→qa f (aR f) p=if L = []then qa f0 (aR f0) p0 else qa f1 (aR f1) (nth L 0))→(own=false→k%2=0→aD env.P 45 [R2 t.num t.den] (QA f (aR f) p))→(own=false→¬k%2=0→qa f (aR f) p=qa f0 (aR f0) p0)→aD env.P 7 [aG j2 l, .int .i64 n, .int .i64 d,aG aH c, .int .i64 k, .bool own] (.bool true):=fun {s m u f p} A hx z e1 e2 e3=>by
  have c1:=GF (a:=b) (b:=a) A z kb ka
  rw [A.afX ka kb,A.afY ka kb,RU kQ]at c1
  have c2:=JQ (a:=b) (b:=a) A z kb ka
  rw [A.afX (a:=b) (b:=a) kb ka,A.afY (a:=b) (b:=a) kb ka,RU kQ]at c2
  exact RS (y:=f.l) (cy:=aR f) (an':=p.1.num) (ad':=p.1.den) (bn':=p.2.num) (bd':=p.2.den) (x:=f0.l) (cx:=aR f0) (an:=p0.1.num) (ad:=p0.1.den) (bn:=p0.2.num) (bd:=p0.2.den) hP hk hL1 hPk (qX ka kb) hT hS e1 e2 e3 A.toA (GF A z ka kb) (JQ A z ka kb) (RV A z hx ka kb) (WO A z hx ka kb) c1 c2
 cases own with
 | true =>
  by_cases hL:L = []
  ·exact fin A0 E0 apY (fun _=>by rw [if_pos hL]) (fun h=>by cases h) (fun h=>by cases h)
  ·exact fin (amd hL).1 (amd hL).2 awl (fun _=>by rw [if_neg hL]) (fun h=>by cases h) (fun h=>by cases h)
 | false =>
  by_cases h0:k%2=0
  ·exact fin At Et apY (fun h=>by cases h) (fun _ _=>agq) (fun _ h=>absurd h0 h)
  ·exact fin A0 E0 apY (fun h=>by cases h) (fun _ h=>absurd h h0) (fun _ _=>rfl)
theorem WQ:tH Tryz.prog 94 (fun ps=>∃p:PT,ps=j2 p∧(p.In ∧ -9223372036854775808≤p.id∧p.id<9223372036854775808)):=
 (tH.struct (fs:=[⟨ "Curve",86,0,true, "", "",0⟩,⟨ "Id",3,4,false, "", "", 80⟩]) (Rs:=[fun ps=>∃c:RC,ps=c.cells∧InP c.x∧InP c.y∧InL c.l,fun ps=>∃n:Int,ps = [.int .i64 n]∧(IntKind.min .i64)≤n∧n≤(IntKind.max .i64)]) (by kernel_rfl)
  ⟨rfl,abd,by kernel_rfl,tH.int .i64 (by kernel_rfl),by show(_:Nat)=_;kernel_rfl⟩).mono fun ps h=>by
  simp only [aaG]at h
  obtain⟨a,b,rfl,⟨c,rfl,hx,hy,hd⟩,a',b',rfl,⟨n,rfl,h2,h3⟩,rfl⟩:=h
  exact⟨⟨c,n⟩,rfl,⟨hx,hy,hd.xX,hd.len⟩,by simpa [IntKind.min,IntKind.signed,IntKind.bits]using h2,by simp [IntKind.max,IntKind.signed,IntKind.bits]at h3;show n<_;omega⟩
theorem RW:qZ Tryz.prog 80 (fun q=>∃l:List PT,q=aG j2 l∧(∀p∈l,p.In ∧ -9223372036854775808≤p.id∧p.id<9223372036854775808)∧l.length<9223372036854775808):=
 (qZ.slice (e:=94) (by kernel_rfl) (by rw [show Tryz.prog.cellsOf 94=5 by kernel_rfl];decide) WQ).mono fun q ⟨l,h1,h2,h3⟩=>by
  obtain⟨m,rfl,hm⟩:=maps (g:=j2) (Q:=fun p:PT=>p.In ∧ -9223372036854775808≤p.id∧p.id<9223372036854775808) (fun ps h=>h) h2
  exact⟨m,h1,hm,by rw [List.length_map]at h3;simp only [maxLen]at h3;omega⟩
end Go.Proofs.YtelhfbikiccfkaaGreat
set_option linter.unusedSimpArgs false
set_option linter.unusedVariables false
namespace Go.Proofs.YtelhfbikiccfkaaGreat.predOrders
open Go Pm Go.ChangeShapes Go.WideShapes Go.ChangeAt Go.RowKit
theorem ajN:tH Tryz.prog 3 (fun ps=>∃n:Int,ps=aH n ∧ -9223372036854775808≤n∧n<9223372036854775808):=
  (tH.int .i64 (by kernel_rfl)).mono fun ps ⟨n,h1,h2,h3⟩=>⟨n,h1,by simpa [IntKind.min,IntKind.signed,IntKind.bits]using h2,by simp [IntKind.max,IntKind.signed,IntKind.bits]at h3;omega⟩
theorem agw:qZ Tryz.prog 22 (fun q=>∃l:List Int,q=aG aH l∧(∀x∈l, -9223372036854775808≤x∧x<9223372036854775808)∧l.length<9223372036854775808):=
  (qZ.slice (e:=3) (by kernel_rfl) (by rw [show Tryz.prog.cellsOf 3=1 by kernel_rfl];decide) ajN).mono fun q ⟨l,h1,h2,h3⟩=>by
    obtain⟨m,rfl,hm⟩:=maps (g:=aH) (Q:=fun n => -9223372036854775808≤n∧n<9223372036854775808) (fun ps h=>h) h2
    exact⟨m,h1,hm,by rw [List.length_map]at h3;simp only [maxLen]at h3;omega⟩
set_option maxRecDepth 100000 in
theorem lifted(os:Os)(started:os.Started)(H:Type)(enc:TypeId × Value→H) :
    ReturnsInHanded {} Tryz.checked os 7 .any (Rows.predOrdersSpec.pre6 enc Tryz.prog Tryz.f7 Rows.predOrdersRow.domain false) (Rows.predOrdersSpec.post enc Tryz.prog Tryz.f7 false true false false):=by
  refine aea (C:=Tryz.checked) (Qs:=[fun q=>∃l:List PT,q=aG j2 l∧(∀p∈l,p.In ∧ -9223372036854775808≤p.id∧p.id<9223372036854775808)∧l.length<9223372036854775808,fun q=>∃n:Int,q = .int .i64 n ∧ -9223372036854775808≤n∧n<9223372036854775808,fun q=>∃n:Int,q = .int .i64 n ∧ -9223372036854775808≤n∧n<9223372036854775808,fun q=>∃l:List Int,q=aG aH l∧(∀x∈l, -9223372036854775808≤x∧x<9223372036854775808)∧l.length<9223372036854775808,fun q=>∃n:Int,q = .int .i64 n ∧ -9223372036854775808≤n∧n<9223372036854775808,fun q=>∃b,q = .bool b]) (tb:=4) own laidOut started (by kernel_rfl) Tryz.func7
    (ChangeSpec.witness6 (enc:=enc) (C:=Tryz.checked) false ⟨#[], #[.slice none 0 0, .int .i64 0, .int .i64 0, .slice none 0 0, .int .i64 0, .bool false],[]⟩ 16 (by kernel_rfl) (by kernel_rfl) (by kernel_rfl) (by kernel_rfl)) rfl ?_ (by kernel_rfl) (by kernel_rfl) ?_ ?_
  · intro ds h
    rw [show Tryz.f7.params.size=6 by kernel_rfl]at h
    match ds,h with
    | [_,_,_,_,_,_],_=>rfl
  · rw [show Tryz.f7.params.toList = [80,3,3,22,3,4]by kernel_rfl]
    exact⟨RW,by kernel_rfl,of_decide_eq_true (by kernel_rfl),K9,by kernel_rfl,of_decide_eq_true (by kernel_rfl),K9,by kernel_rfl,of_decide_eq_true (by kernel_rfl),agw,by kernel_rfl,of_decide_eq_true (by kernel_rfl),K9,by kernel_rfl,of_decide_eq_true (by kernel_rfl),aex,by kernel_rfl,of_decide_eq_true (by kernel_rfl),trivial⟩
  · rintro ps h
    obtain⟨_,_,rfl,⟨a0,rfl,h0,g0⟩,⟨_,_,rfl,⟨a1,rfl,h1⟩,⟨_,_,rfl,⟨a2,rfl,h2⟩,⟨_,_,rfl,⟨a3,rfl,h3,g3⟩,⟨_,_,rfl,⟨a4,rfl,h4⟩,⟨_,_,rfl,⟨a5,rfl⟩,rfl⟩⟩⟩⟩⟩⟩:=h
    exact GG a0 a1 a2 a3 a4 a5 h0 g0 h1 h2 h3 g3 h4
theorem z1:(Rows.predOrdersRow.inPlace==Tryz.pinned.checked.prog.inPlace 7)=true:=by kernel_rfl
theorem z2:(Rows.predOrdersRow.unfollowed==Tryz.pinned.checked.prog.unfollowed 7)=true:=by kernel_rfl
theorem z3:(Rows.predOrdersRow.recurses==Tryz.pinned.checked.prog.recurses 7)=true:=by kernel_rfl
theorem z4:(Rows.predOrdersRow.named==Tryz.pinned.checked.prog.varsNamed 7)=true:=by kernel_rfl
theorem closed:joinedFacts Tryz.pinned.checked.prog 7 Tryz.f7 Rows.predOrdersSpec Rows.predOrdersRow=true:=by
  unfold joinedFacts
  rw [z1,z2,z3,z4]
  kernel_rfl
theorem proved:Rows.PredOrdersSaid:=
  OpenClaim.holds_of_wide 7 Tryz.f7 rfl rfl rfl rfl rfl rfl rfl ⟨rfl,rfl,rfl,rfl,rfl⟩ rfl rfl rfl rfl rfl (by kernel_rfl) Tryz.func7 closed
    (of_decide_eq_true (by kernel_rfl)) (by unfold Func.isWrapper;first | (rw [if_pos (by decide +kernel)];kernel_rfl) | (rw [if_neg (by decide +kernel)];exact⟨rfl,rfl⟩))
    (fun os started H enc _=>lifted os started H enc)
#print axioms proved
end Go.Proofs.YtelhfbikiccfkaaGreat.predOrders
