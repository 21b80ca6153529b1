/- For every input the law KinZero of chapter 17 returns true, and each argument reads afterwards as it read before. No conditions. -/
import Derived.Test.YtiobceocpabjdaaGreatRows
import Derived.Test.YtiobceocpabjdaaGreatZas
set_option linter.unusedSimpArgs false
set_option linter.unusedVariables false
namespace Go.Proofs.YtiobceocpabjdaaGreat
open Go Pm
open ZX hiding N W
theorem ah8{t:Rat}(sb:t.num.natAbs≤30∧((t.den:Int)).natAbs≤6):aF env.P 41 [R2 t.num t.den] (AP (dP t).l (bK (dP t)) t.num t.den):=by
 have It:=OW (s:=59) (n:=5) sb (by decide) (by decide) (by decide) (by decide) (by decide) (by decide)
 have hR:=E3 (n:=t.num) (d:=t.den) (by omega) (by omega) (by have:=t.den_pos;omega) (uS t)
 rw [It.sq]at hR
 rw [uS];exact hR
theorem ptA{t:Rat}(q:SQ 5 t)(sb:t.num.natAbs≤30∧((t.den:Int)).natAbs≤6):wV 59 5 7000 (dP t) (t,t) t:=wV.pt q sb (by decide) (by decide) (by decide) (by decide) (by decide) (by decide)
theorem au2{t:Rat}(q:SQ 5 t)(sb:t.num.natAbs≤30∧((t.den:Int)).natAbs≤6):aF env.P 29 [AP (dP t).l (bK (dP t)) t.num t.den] (.ag (b9 (gA (dP t) (t,t)))):=(ptA q sb).a.toA
theorem azX:CpC S19 5 59 5:=⟨by decide,by decide,by decide,by decide,by decide,by decide,by decide⟩
theorem k1:Kz [1] (dP 1):=by
 have h:=Kz.nil.ins (r:=1) (by decide) (k:=0) (fun _ h=>by cases h) (fun _ h=>by cases h)
 have e1:of [1]*dP 1=dP 1:=by
  show(1:ZX)*dP 1=dP 1
  grind
 rw [e1]at h
 exact h
theorem aak:SQ 5 (0:Rat):=⟨by decide,by decide,by decide⟩
theorem azY:SQ 5 (1:Rat):=⟨by decide,by decide,by decide⟩
def cw:CE:=⟨⟨0,0,0,0,0⟩,false,[-1,1], -1⟩
theorem OY:aF env.P 45 [] (.bool true):=by
 have o0:=n3 0 1 (by decide) (by decide)
 have o1:=n3 1 1 (by decide) (by decide)
 rw [show dM 0 1=0 by decide,gR]at o0
 rw [show dM 1 1=1 by decide,gR]at o1
 have r0:=ah8 (t:=0) (by decide)
 have B:=ptA aak (by decide)
 have ta:=au2 aak (by decide)
 have q4:aF env.P 97 [.sl [[.int .i64 (-1)],[.int .i64 1]]] (PI [-1,1]):=US [-1,1] (by decide) (by decide)
 have q5:aF env.P 100 [PI [-1,1]] (Po [-1,1]):=U5 [-1,1] (fun c hc=>by
  simp only [List.mem_cons,List.not_mem_nil,or_false]at hc
  exact Nat.lt_of_le_of_lt (nI (k:=1) (by rcases hc with rfl | rfl<;>decide)) (by decide)) (by decide)
 have K:=k1
 have bz:=(K.lay (by decide)).bz
 have nN:=fE (x:=(dP 1).l) (bz.pb (by decide) (by decide))
 rw [(dP 1).c]at nN
 have hS:aF env.P 35 [aN lH [cw]] (aN lH [cw]):=GD (l:=[cw]) (by decide) (fun x hx=>by
  simp only [List.mem_cons,List.not_mem_nil,or_false]at hx
  subst hx
  exact nN)
 have hY:=agR (b:=false) (n:=A9.no) (z:=true) (L:=[]) (e:=0) (later:=false) (C:=[cw]) (S:=[cw]) (G:=WE.new) (by decide) (fun s hs=>by
  simp only [List.mem_cons,List.not_mem_nil,or_false]at hs
  subst hs;rfl) hS B.least (fun _ _ _=>rfl) (fun h=>by cases h)
 have hBe:=YZ hY
 have hN:=MX (z:=false) (L:=[WE.new cw]) (e:=0) B.least
 have hG:=K.next (by decide) B azX
 have e0:KA [1] 0=0:=by decide
 rw [e0]at hG
 have hr:=K.root (by decide) (i:=0) (by decide)
 have hl:(wW (dP 1)).length=1:=K.len (by decide)
 have en:nA (sq (dP 1)) (wW (dP 1)) 0=gA (sq (dP 1)) (nth (wW (dP 1)) 0):=if_pos (by omega)
 rw [en]at hG
 have hK:=CX (R:=fun _=>(true,gA (sq (dP 1)) (nth (wW (dP 1)) 0))) (by decide) (fun h=>by cases h) hN (fun w hw _=>by
  simp only [List.mem_cons,List.not_mem_nil,or_false]at hw
  subst hw
  exact hG)
 have hX:=CY (r:=gA (sq (dP 1)) (nth (wW (dP 1)) 0)) (ok:=true) (by decide) hK hr.least
 have hc:=hr.qcr (azY.mono (show 5≤uu S19 by decide)) (Nat.le_refl _) (by decide)
 rw [show nth [(1:Rat)] 0=1 from rfl,OX,gR]at hc
 exact J8 o0 r0 ta q4 q5 hBe hX hr.fa o1 hc
theorem OZ(n d:Int)(hn : -9223372036854775808≤n∧n<9223372036854775808)(hd : -9223372036854775808≤d∧d<9223372036854775808) :
  aF env.P 10 [.int .i64 n, .int .i64 d] (.bool true):=by
 have hS:=ZW n d hn hd
 have q5:=anY n d
 have sb:=adQ n d
 generalize sml n d=t at *
 have hT:=q5.tor (by decide)
 rw [gR]at hS hT
 have o0:=n3 0 1 (by decide) (by decide)
 rw [show dM 0 1=0 by decide,gR]at o0
 have B:=ptA aak (by decide)
 have A:=ptA q5 sb
 have RV:=MY (n:=A9.no) (z:=false) (L:=[]) (e:=0) HB (TL aak (by decide))
 have hN0:=MY (n:=A9.no) (z:=true) (L:=[]) (e:=0) HB (TL aak (by decide))
 have hK0:=CX (R:=fun _=>(false,A9.no)) (by decide) (fun _=>rfl) hN0 (fun w hw _=>by cases hw)
 have hK1:=CX (R:=fun _=>(false,A9.no)) (by decide) (fun _=>rfl) RV (fun w hw _=>by cases hw)
 have hX0:=CY (r:=A9.no) (ok:=false) (by decide) hK0 HA
 have hX1:=CY (r:=A9.no) (ok:=false) (by decide) hK1 HA
 have hC:=YX (b:=false) (n:=A9.no) (z:=false) (L:=[]) (M:=[]) (e:=0) (by decide) (fun _=>rfl) (GD (l:=[]) (by decide) (fun x hx=>by cases hx))
 have q7:SQ 7000 t:=q5.mono (by decide)
 have c0:=B.qcr (aak.mono (show 5≤7000 by decide)) (Nat.le_refl _) (by decide)
 have c1:=A.qcr q7 (Nat.le_refl _) (by decide)
 rw [OX,gR]at c0 c1
 have hcr:=B.cr q7 (Nat.le_refl _) (by decide)
 have ht:t.num<0↔t<0:=by rw [←Rat.not_le,←Rat.num_nonneg];omega
 refine J9 (z:=gA (dP 0) (0,0)) (t:=gA (dP t) (t,t)) hS hX0 hC (RL hX1) RV B.fa o0 c0 hT (fun h=>?_) (fun h=>?_) (MX A.least) A.fa c1 OY
 ·exact agS (S:=⟨false,A9.no,false,[],0⟩) (AW.2 (ht.1 h)) RV hcr
 ·exact anm (K:=0) (S:=fun _=>⟨false,A9.no,false,[],0⟩) (U:=fun _=>⟨false,A9.no,false,[],0⟩) (a:=fun _=>A9.no) (C:=fun _=>[]) (fun hh=>h (ht.2 (AW.1 hh))) (by decide) rfl rfl rfl RV hcr (fun i hi=>absurd hi (Nat.not_lt_zero _)) (fun i hi=>absurd hi (Nat.not_lt_zero _)) (fun i hi=>absurd hi (Nat.not_lt_zero _)) (fun i hi=>absurd hi (Nat.not_lt_zero _)) (fun i hi=>absurd hi (Nat.not_lt_zero _)) hX1 (fun h=>by cases h) (TL q5 (by decide)) rfl
end Go.Proofs.YtiobceocpabjdaaGreat
set_option linter.unusedSimpArgs false
set_option linter.unusedVariables false
namespace Go.Proofs.YtiobceocpabjdaaGreat.kinZero
open Go Pm Go.ChangeShapes Go.WideShapes Go.ChangeAt Go.RowKit
set_option maxRecDepth 100000 in
theorem lifted(os:Os)(started:os.Started)(H:Type)(enc:TypeId × Value→H) :
    ReturnsInHanded {} Tryz.checked os 10 .any (Rows.kinZeroSpec.pre6 enc Tryz.prog Tryz.f10 Rows.kinZeroRow.domain false) (Rows.kinZeroSpec.post enc Tryz.prog Tryz.f10 false true false false):=by
  refine acf (C:=Tryz.checked) (Qs:=[fun q=>∃n:Int,q = .int .i64 n ∧ -9223372036854775808≤n∧n<9223372036854775808,fun q=>∃n:Int,q = .int .i64 n ∧ -9223372036854775808≤n∧n<9223372036854775808]) (tb:=4) own laidOut started (by kernel_rfl) Tryz.func10
    (ChangeSpec.witness6 (enc:=enc) (C:=Tryz.checked) false ⟨#[], #[.int .i64 0, .int .i64 0],[]⟩ 16 (by kernel_rfl) (by kernel_rfl) (by kernel_rfl) (by kernel_rfl)) rfl ?_ (by kernel_rfl) (by kernel_rfl) ?_ ?_
  · intro ds h
    rw [show Tryz.f10.params.size=2 by kernel_rfl]at h
    match ds,h with
    | [_,_],_=>rfl
  · rw [show Tryz.f10.params.toList = [3,3]by kernel_rfl]
    exact⟨UU,by kernel_rfl,of_decide_eq_true (by kernel_rfl),UU,by kernel_rfl,of_decide_eq_true (by kernel_rfl),trivial⟩
  · rintro ps h
    obtain⟨_,_,rfl,⟨a0,rfl,h0⟩,⟨_,_,rfl,⟨a1,rfl,h1⟩,rfl⟩⟩:=h
    exact OZ a0 a1 h0 h1
theorem z1:(Rows.kinZeroRow.inPlace==Tryz.pinned.checked.prog.inPlace 10)=true:=by kernel_rfl
theorem z2:(Rows.kinZeroRow.unfollowed==Tryz.pinned.checked.prog.unfollowed 10)=true:=by kernel_rfl
theorem z3:(Rows.kinZeroRow.recurses==Tryz.pinned.checked.prog.recurses 10)=true:=by kernel_rfl
theorem z4:(Rows.kinZeroRow.named==Tryz.pinned.checked.prog.varsNamed 10)=true:=by kernel_rfl
theorem closed:joinedFacts Tryz.pinned.checked.prog 10 Tryz.f10 Rows.kinZeroSpec Rows.kinZeroRow=true:=by
  unfold joinedFacts
  rw [z1,z2,z3,z4]
  kernel_rfl
theorem proved:Rows.KinZeroSaid:=
  OpenClaim.holds_of_wide 10 Tryz.f10 rfl rfl rfl rfl rfl rfl rfl ⟨rfl,rfl,rfl,rfl,rfl⟩ rfl rfl rfl rfl rfl (by kernel_rfl) Tryz.func10 closed
    (of_decide_eq_true (by kernel_rfl)) (by unfold Func.isWrapper;first | (rw [if_pos (by decide +kernel)];kernel_rfl) | (rw [if_neg (by decide +kernel)];exact⟨rfl,rfl⟩))
    (fun os started H enc _=>lifted os started H enc)
#print axioms proved
end Go.Proofs.YtiobceocpabjdaaGreat.kinZero
