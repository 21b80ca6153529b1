/- For every input the law KinSplits of chapter 17 returns true, and each argument reads afterwards as it read before. No conditions. -/
import Derived.Test.YtiobceocpabjdaaGreatRows
import Derived.Test.YtiobceocpabjdaaGreatKap
set_option linter.unusedSimpArgs false
set_option linter.unusedVariables false
namespace Go.Proofs.YtiobceocpabjdaaGreat
open Go Pm
open ZX hiding N W

theorem ptX(t:Rat):gX (dR t) (t,t)=ptN t:=rfl
theorem ag5{ps:List (List Int)}{n:A9}{L:List WE}{e:Int}(hL:L.length<1000)(hp:∀w∈L,∃a∈PL ps,w.p=a.l) :
    ∃M,fY env.P 47 [] 95 12 (co true n false L e) (co true n false L e) (aH gP M)∧aE env.P 34 [aH gP M,aH gP M] (.bool true):=by
  have hc:∀x∈L.map WE.c,x.z=false ∧ ∃a∈PL ps,x.p=a.l:=fun x hx=>by
    obtain⟨w,hw,rfl⟩:=List.mem_map.1 hx
    exact⟨rfl,hp w hw⟩
  have hS:=zL (l:=L.map WE.c) (by simp;omega) fun x hx=>by
    obtain⟨hz,a,ha,e1⟩:=hc x hx
    have bz:=(aad a ha).lay.bz
    have nN:=eO (x:=a.l) (bz.pb (by decide) (by decide))
    rw [a.c]at nN
    have e2:x.v=a.l:=by unfold CE.v;rw [hz,if_neg (by decide)];exact e1
    rw [e2,hz,e1]
    exact nN
  refine⟨_,abo (by omega) (fun h=>by cases h) hS,F3 (by rw [xU];simp;omega) fun x hx=>?_⟩
  obtain⟨y,hy,rfl⟩:=SI hx
  obtain⟨hz,a,ha,e1⟩:=hc y hy
  have bz:=(aad a ha).lay.bz
  have e2:y.nz.p=a.l:=by show y.v=a.l;unfold CE.v;rw [hz,if_neg (by decide)];exact e1
  refine⟨rfl,?_⟩
  rw [e2]
  have hB:=NI bz
  exact HC (Nat.lt_of_le_of_lt hB.len (by decide)) fun c hc=>Nat.lt_of_le_of_lt (hB.sz c hc) (by decide)
noncomputable abbrev lq{PL:List ZX}{lo:A9}{g:FuncId}{caps:List PV}{C B:A9→List CE}(D:Bld PL lo g caps C B)(t:Rat):List WE:=mO B lo (kT D t)
theorem HD(ps:List (List Int))(rK:List Int)(hb:∀l∈ps,(∀x∈l, -9223372036854775808≤x∧x<9223372036854775808)∧l.length<9223372036854775808)(hl:ps.length<9223372036854775808)(hcb:∀x∈rK, -9223372036854775808≤x∧x<9223372036854775808)(gE:rK.length<9223372036854775808) :
    aE env.P 9 [aH lcs ps,aH aG rK] (.bool true):=by
  have gl:Gd (-20):=⟨⟨by decide,by decide,by decide⟩,by decide,by decide⟩
  have gh:Gd 20:=⟨⟨by decide,by decide,by decide⟩,by decide,by decide⟩
  have y6:=ann gl.1 gl.2
  have D:=aDs hl hb y6
  generalize ahF:ptN (-20)=F9 at *
  have hk:∀t,kT D t≤105:=fun t=>Nat.le_trans (yR D t).1 WU
  have fT:∀t j,j<kT D t→BN (mO (fun A=>oO (cC ps A)) F9 j)=true:=fun t j hj=>((yR D t).2.1 j hj).1
  have hw:=fun t=>mQ D (kT D t) (fT t)
  have hwl:=fun t=>((hw t).2.1.look D.okp).1
  obtain⟨M,hM,hMs⟩:=ag5 (ps:=ps) (n:=ptN 20) (L:=lq D 20) (e:=(kT D 20:Nat)) (hwl 20).len (hwl 20).pol
  have o1:=mN (-20) 1 (by decide) (by decide)
  have o2:=mN 20 1 (by decide) (by decide)
  rw [show dU (-20) 1 = -20 by decide,dJ]at o1
  rw [show dU 20 1=20 by decide,dJ]at o2
  have hY:=K7 (b:=false) (n:=A9.no) (t:=F9) (z:=true) (L:=[]) (e:=0) (later:=false) (C:=cC ps F9) (S:=oO (cC ps F9)) (G:=WE.new) (by have:=D.len _ D.lo;omega) (fun s hs=>(D.cer _ D.lo s hs).1) anp y6.least (fun _ _ _=>rfl) (fun h=>by cases h)
  have hBe:=IQ hY
  have hTA:=ani gl.1 gl.2
  rw [ptX,ahF]at hTA
  have hpk:∀ {u:Rat},Gd u→NA (ptN u):=fun h=>ann h.1 h.2
  refine F4 (ps:=ps) gE hcb (lo := -20) (hi:=20) (kt:=kT D) (t:=F9) (x:=(dR (-20)).l) (C:=bA (dR (-20))) (m:=cC ps F9) (M:=M)
    (cs:=fun b u=>if b=true then co true (ptN u) false (lq D u) (kT D u)else co true F9 false ((oO (cC ps F9)).map WE.new) 0) (r:=BM (lq D 20)) (ok:=BN (lq D 20))
    ⟨fun u=>by have:=hk u;omega,fun b u q hq=>?_,gl,gh,by decide,o1,o2,Z3 gl.2,hTA,ag4 hl hb y6,hBe,fun b u v hu hv h1 h2 hbu=>?_,?_,EW,hM,hMs⟩
  · cases b
    · exact iP _ _ _ _ _ q hq
    · exact iP _ _ _ _ _ q hq
  · cases b
    · have hcr:¬0<ZX.cr (cA F9) v:=by rw [←ahF,ano gl.1 gl.2,yO];grind
      have:=aab D (ag1 D) hv.1 hv.2 (Nat.zero_le _) (by have:=WU (ps:=ps);omega) hcr
      exact this
    · have hcr:¬0<ZX.cr (cA (ptN u)) v:=by rw [ano hu.1 hu.2,yO];grind
      have:=aab D (SG D (hpk hu) (kT D u) (fT u)) hv.1 hv.2 (akJ D h2) (by have:=WU (ps:=ps);omega) hcr
      exact this
  · exact(SG D (hpk gh) (kT D 20) (fT 20)).nx
end Go.Proofs.YtiobceocpabjdaaGreat
set_option linter.unusedSimpArgs false
set_option linter.unusedVariables false
namespace Go.Proofs.YtiobceocpabjdaaGreat.kinSplits
open Go Pm Go.ChangeShapes Go.WideShapes Go.ChangeAt Go.RowKit
abbrev IS(l:List Int):Prop:=(∀x∈l, -9223372036854775808≤x∧x<9223372036854775808)∧l.length<9223372036854775808
theorem aae:H6 Tryz.prog 3 (fun ps=>∃n:Int,ps=aG n ∧ -9223372036854775808≤n∧n<9223372036854775808):=
  (H6.int .i64 (by kernel_rfl)).mono fun ps ⟨n,h1,h2,h3⟩=>⟨n,h1,by simpa [IntKind.min,IntKind.signed,IntKind.bits]using h2,by simp [IntKind.max,IntKind.signed,IntKind.bits]at h3;omega⟩
theorem ag6:vS Tryz.prog 22 (fun q=>∃l:List Int,q=aH aG l∧IS l):=
  (vS.slice (e:=3) (by kernel_rfl) (by rw [show Tryz.prog.cellsOf 3=1 by kernel_rfl];decide) aae).mono fun q ⟨l,h1,h2,h3⟩=>by
    obtain⟨m,rfl,hm⟩:=maps (g:=aG) (Q:=fun n => -9223372036854775808≤n∧n<9223372036854775808) (fun ps h=>h) h2
    exact⟨m,h1,hm,by rw [List.length_map]at h3;simp only [maxLen]at h3;omega⟩
theorem ag7:H6 Tryz.prog 22 (fun ps=>∃l:List Int,ps=lcs l∧IS l):=
  (H6.slice (e:=3) (by kernel_rfl) (by rw [show Tryz.prog.cellsOf 3=1 by kernel_rfl];decide) aae).mono fun ps ⟨l,h1,h2,h3⟩=>by
    obtain⟨m,rfl,hm⟩:=maps (g:=aG) (Q:=fun n => -9223372036854775808≤n∧n<9223372036854775808) (fun ps h=>h) h2
    exact⟨m,h1,hm,by rw [List.length_map]at h3;simp only [maxLen]at h3;omega⟩
theorem acp:vS Tryz.prog 102 (fun q=>∃l:List (List Int),q=aH lcs l∧(∀m∈l,IS m)∧l.length<9223372036854775808):=
  (vS.slice (e:=22) (by kernel_rfl) (by rw [show Tryz.prog.cellsOf 22=1 by kernel_rfl];decide) ag7).mono fun q ⟨l,h1,h2,h3⟩=>by
    obtain⟨m,rfl,hm⟩:=maps (g:=lcs) (Q:=fun m=>IS m) (fun ps h=>h) h2
    exact⟨m,h1,hm,by rw [List.length_map]at h3;simp only [maxLen]at h3;omega⟩
set_option maxRecDepth 100000 in
theorem lifted(os:Os)(started:os.Started)(H:Type)(enc:TypeId × Value→H) :
    ReturnsInHanded {} Tryz.checked os 9 .any (Rows.kinSplitsSpec.pre6 enc Tryz.prog Tryz.f9 Rows.kinSplitsRow.domain false) (Rows.kinSplitsSpec.post enc Tryz.prog Tryz.f9 false true false false):=by
  refine aen (C:=Tryz.checked) (Qs:=[fun q=>∃l:List (List Int),q=aH lcs l∧(∀m∈l,IS m)∧l.length<9223372036854775808,fun q=>∃l:List Int,q=aH aG l∧IS l]) (tb:=4) own laidOut started (by kernel_rfl) Tryz.func9
    (ChangeSpec.witness6 (enc:=enc) (C:=Tryz.checked) false ⟨#[], #[.slice none 0 0, .slice none 0 0],[]⟩ 16 (by kernel_rfl) (by kernel_rfl) (by kernel_rfl) (by kernel_rfl)) rfl ?_ (by kernel_rfl) (by kernel_rfl) ?_ ?_
  · intro ds h
    rw [show Tryz.f9.params.size=2 by kernel_rfl]at h
    match ds,h with
    | [_,_],_=>rfl
  · rw [show Tryz.f9.params.toList = [102,22]by kernel_rfl]
    exact⟨acp,by kernel_rfl,of_decide_eq_true (by kernel_rfl),ag6,by kernel_rfl,of_decide_eq_true (by kernel_rfl),trivial⟩
  · rintro ps h
    obtain⟨_,_,rfl,⟨a0,rfl,h0,g0⟩,⟨_,_,rfl,⟨a1,rfl,h1,g1⟩,rfl⟩⟩:=h
    exact HD a0 a1 h0 g0 h1 g1
theorem z1:(Rows.kinSplitsRow.inPlace==Tryz.pinned.checked.prog.inPlace 9)=true:=by kernel_rfl
theorem z2:(Rows.kinSplitsRow.unfollowed==Tryz.pinned.checked.prog.unfollowed 9)=true:=by kernel_rfl
theorem z3:(Rows.kinSplitsRow.recurses==Tryz.pinned.checked.prog.recurses 9)=true:=by kernel_rfl
theorem z4:(Rows.kinSplitsRow.named==Tryz.pinned.checked.prog.varsNamed 9)=true:=by kernel_rfl
theorem closed:joinedFacts Tryz.pinned.checked.prog 9 Tryz.f9 Rows.kinSplitsSpec Rows.kinSplitsRow=true:=by
  unfold joinedFacts
  rw [z1,z2,z3,z4]
  kernel_rfl
theorem proved:Rows.KinSplitsSaid:=
  OpenClaim.holds_of_wide 9 Tryz.f9 rfl rfl rfl rfl rfl rfl rfl ⟨rfl,rfl,rfl,rfl,rfl⟩ rfl rfl rfl rfl rfl (by kernel_rfl) Tryz.func9 closed
    (of_decide_eq_true (by kernel_rfl)) (by unfold Func.isWrapper;first | (rw [if_pos (by decide +kernel)];kernel_rfl) | (rw [if_neg (by decide +kernel)];exact⟨rfl,rfl⟩))
    (fun os started H enc _=>lifted os started H enc)
#print axioms proved
end Go.Proofs.YtiobceocpabjdaaGreat.kinSplits
