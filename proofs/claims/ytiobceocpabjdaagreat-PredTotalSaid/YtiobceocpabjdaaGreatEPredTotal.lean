/- For every input the law PredTotal of chapter 14 returns true, and each argument reads afterwards as it read before. No conditions. -/
import Derived.Test.YtiobceocpabjdaaGreatRows
import Derived.Test.YtiobceocpabjdaaGreatEas
set_option linter.unusedSimpArgs false
set_option linter.unusedVariables false
namespace Go.Proofs.YtiobceocpabjdaaGreat
open Go Pm
open ZX hiding N W
theorem VC{M v:Int}(hM:M≤1000)(h : -M≤v∧v≤M):(aU LL v.natAbs).length≤1:=uZ eB (by show _<4294967296^1;omega)
theorem VD{M:Int}(h0:0≤M)(hM:M≤1000)(x:RP):Sm 3 1 ((lits M x).map iM):=⟨fun e he=>by
 simp only [List.mem_map,lits]at he
 obtain⟨v,⟨a,_,rfl⟩,rfl⟩:=he
 exact⟨eQ eB _,VC hM (IY h0 a)⟩,by rw [List.length_map,rQ];omega⟩
theorem RW{M:Int}(h0:0≤M)(hM:M≤1000)(c:RC):(RO M c).Small 3 1:=
 ⟨VD h0 hM _,VD h0 hM _,eQ eB _,VC (M:=3) (by decide) (IY (by decide) _),by decide,by decide,by decide⟩
theorem RX{M:Int}(h0:0≤M)(hM:M≤1000)(e:Bool × List Int):aH env.P 16 [RI (lit M e)] (I (lit M e)):=
 vH _ (Nat.lt_of_le_of_lt (cK (b:=2) (k:=10) (by decide) (by have:=IY h0 e;show _<1024;omega)) (by decide))
def zx(a:PT):ZX:=⟨a.c.nc.x,a.c.TN.cx⟩
def zy(a:PT):ZX:=⟨a.c.nc.y,a.c.TN.cy⟩
theorem as9(t c:Int):V t (K c).l=c:=by
 show V t (aI [c])=c
 rw [cV];simp [V]
theorem ata(a b:PT):XX a b=K a.c.nc.d*zx b-K b.c.nc.d*zx a:=ZX.ext fun t=>by
 show V t (dA _ _)=V t (dA (bA (K _).l _) (bA (K _).l _))
 simp only [gG,cG,c7,as9]
 show V t b.c.nc.x*_-V t a.c.nc.x*_=_*V t b.c.nc.x-_*V t a.c.nc.x
 rw [Int.mul_comm (V t b.c.nc.x),Int.mul_comm (V t a.c.nc.x)]
theorem atb(a b:PT):DN a b=K a.c.nc.d*zy b-K b.c.nc.d*zy a:=ZX.ext fun t=>by
 show V t (dA _ _)=V t (dA (bA (K _).l _) (bA (K _).l _))
 simp only [gG,cG,c7,as9]
 show V t b.c.nc.y*_-V t a.c.nc.y*_=_*V t b.c.nc.y-_*V t a.c.nc.y
 rw [Int.mul_comm (V t b.c.nc.y),Int.mul_comm (V t a.c.nc.y)]
theorem RY(t:Rat)(a b:PT):e t (XX a b)=a.c.nc.d*e t (zx b)-b.c.nc.d*e t (zx a):=by
 rw [ata,acE,lI,lI,z9,z9]
theorem RZ(t:Rat)(a b:PT):e t (DN a b)=a.c.nc.d*e t (zy b)-b.c.nc.d*e t (zy a):=by
 rw [atb,acE,lI,lI,z9,z9]
theorem adA{O:List PT}(h:¬O.length<3)(h':O.length≤3):∃a b c,O = [a,b,c]:=by
 match O,h,h' with
 | [],h,_=>simp at h
 | [_],h,_=>simp at h
 | [_,_],h,_=>simp at h
 | [a,b,c],_,_=>exact⟨a,b,c,rfl⟩
 | _::_::_::_::_,_,h=>simp at h
theorem am0(a:PT):(0:Rat)<a.c.nc.d:=by
 have:=a.c.TN.pos
 exact_mod_cast this
theorem ED(l:List PT)(c:List Int)(k:Int)(h:∀p∈l,p.In ∧ -9223372036854775808≤p.id∧p.id<9223372036854775808)(hl:l.length<9223372036854775808)(hcb:∀x∈c, -9223372036854775808≤x∧x<9223372036854775808)(hc:c.length<9223372036854775808)(hk : -9223372036854775808≤k∧k<9223372036854775808) :
  aH env.P 4 [aJ gT l,aJ aF c, .int .i64 k] (.bool true):=by
 have hsm:∀p:PT,(RO 999 p.c).Small 3 1:=fun p=>RW (by decide) (by decide) p.c
 have hP:=M4 (l:=l) (n:=3) (cu:=fun p=>RO 999 p.c) hl (.inr rfl) (fun p hp=>by
  have q:=(h p hp).1
  exact XF p.c 3 1 q.x.len (fun e he=>(q.x.ok e he).2) q.y.len (fun e he=>(q.y.ok e he).2) q.ll (by decide) (by decide)) (fun e=>absurd e (by decide)) (fun _ p hp=>by
  have q:=(h p hp).1
  exact M8 (M:=999) (c:=p.c) (fun i hi=>uH (by decide) (by decide) (q.x.ok _ (bI hi)).1 (q.x.ok _ (bI hi)).2 (RX (by decide) (by decide) _)) (fun i hi=>uH (by decide) (by decide) (q.y.ok _ (bI hi)).1 (q.y.ok _ (bI hi)).2 (RX (by decide) (by decide) _)) (uH (by decide) (by decide) q.l q.ll (RX (by decide) (by decide) _)) q.x.len q.y.len) (fun p hp=>RL (QF (hsm p))) (fun p hp=>(h p hp).2)
 obtain⟨o1,o2,o3⟩:=VA (cu:=fun p=>RO 999 p.c) (n:=3) (l:=l) l [] (fun q hq=>hq) (by simp) (by simp) (by simp)
 generalize pO (fun p=>RO 999 p.c) 3 [] l=O at *
 by_cases h3:O.length<3
 ·exact YS hP h3
 obtain⟨a,b,d,rfl⟩:=adA h3 o1
 have ka:a.c.Small 3 1:=by obtain⟨p,hp,rfl⟩:=o2 a (by simp);exact hsm p
 have kb:b.c.Small 3 1:=by obtain⟨p,hp,rfl⟩:=o2 b (by simp);exact hsm p
 have kd:d.c.Small 3 1:=by obtain⟨p,hp,rfl⟩:=o2 d (by simp);exact hsm p
 obtain⟨f,p,hPk,A,_,_,_⟩:=adx (l:=c) (k:=k) hc hk
 rw [asT]at hPk
 have nX:∀ {x y:PT},x.c.Small 3 1→y.c.Small 3 1→ZX.N (XX x y)≤20:=fun kx ky=>Nat.le_trans (bX kx ky).N (by decide)
 have nY:∀ {x y:PT},x.c.Small 3 1→y.c.Small 3 1→ZX.N (DN x y)≤20:=fun kx ky=>Nat.le_trans (bY kx ky).N (by decide)
 obtain⟨t,ht,hT⟩:=M9 A [XX a b,XX b d,XX a d,DN a b,DN b d,DN a d,XX b a,XX d b,XX d a,DN b a,DN d b,DN d a,XX a a,DN a a] (fun q hq=>by
  simp only [List.mem_cons,List.not_mem_nil,or_false]at hq
  rcases hq with rfl | rfl | rfl | rfl | rfl | rfl | rfl | rfl | rfl | rfl | rfl | rfl | rfl | rfl
  ·exact nX ka kb
  ·exact nX kb kd
  ·exact nX ka kd
  ·exact nY ka kb
  ·exact nY kb kd
  ·exact nY ka kd
  ·exact nX kb ka
  ·exact nX kd kb
  ·exact nX kd ka
  ·exact nY kb ka
  ·exact nY kd kb
  ·exact nY kd ka
  ·exact nX ka ka
  ·exact nY ka ka)
 have hT:=hT t ht Rat.le_refl
 have b1:=pR A M5 ka kb
 have b2:=pR A M5 kb kd
 have b3:=pR A M5 ka kd
 have b0:=pR A M5 ka ka
 have c1:=sN A M5 ka kb
 have c2:=sN A M5 kb kd
 have c3:=sN A M5 ka kd
 have c0:=sN A M5 ka ka
 have z1:e t (XX a a)=0:=by rw [RY];grind
 have z2:e t (DN a a)=0:=by rw [RZ];grind
 have zf:M0 (bT 0) (bT 0) a.id a.id=false:=by rw [fS];simp [M0]
 rw [hT (XX a a) (by simp),hT (DN a a) (by simp),z1,z2,zf]at b0 c0
 rw [hT (XX a b) (by simp),hT (DN a b) (by simp)]at b1
 rw [hT (XX b d) (by simp),hT (DN b d) (by simp)]at b2
 rw [hT (XX a d) (by simp),hT (DN a d) (by simp)]at b3
 rw [hT (XX b a) (by simp),hT (DN b a) (by simp)]at c1
 rw [hT (XX d b) (by simp),hT (DN d b) (by simp)]at c2
 rw [hT (XX d a) (by simp),hT (DN d a) (by simp)]at c3
 have pa:=am0 a
 have pb:=am0 b
 have pd:=am0 d
 refine RV (x:=f.l) (cx:=cH f) (an:=p.1.num) (ad:=p.1.den) (bn:=p.2.num) (bd:=p.2.den) hP hPk A.toA b1 b2 b3 b0 c1 c2 c3 c0 (as7 pb pd pa ?_ pb pd pa ?_) (as7 pb pd pa ?_ pb pd pa ?_)
 ·rw [RY,RY,RY];grind
 ·rw [RZ,RZ,RZ];grind
 ·rw [RZ,RZ,RZ];grind
 ·rw [RY,RY,RY];grind
end Go.Proofs.YtiobceocpabjdaaGreat
set_option linter.unusedSimpArgs false
set_option linter.unusedVariables false
namespace Go.Proofs.YtiobceocpabjdaaGreat.predTotal
open Go Pm Go.ChangeShapes Go.WideShapes Go.ChangeAt Go.RowKit
theorem agS:qZ Tryz.prog 3 (fun ps=>∃n:Int,ps=aF n ∧ -9223372036854775808≤n∧n<9223372036854775808):=
  (qZ.int .i64 (by kernel_rfl)).mono fun ps ⟨n,h1,h2,h3⟩=>⟨n,h1,by simpa [IntKind.min,IntKind.signed,IntKind.bits]using h2,by simp [IntKind.max,IntKind.signed,IntKind.bits]at h3;omega⟩
theorem adB:q9 Tryz.prog 22 (fun q=>∃l:List Int,q=aJ aF l∧(∀x∈l, -9223372036854775808≤x∧x<9223372036854775808)∧l.length<9223372036854775808):=
  (q9.slice (e:=3) (by kernel_rfl) (by rw [show Tryz.prog.cellsOf 3=1 by kernel_rfl];decide) agS).mono fun q ⟨l,h1,h2,h3⟩=>by
    obtain⟨m,rfl,hm⟩:=maps (g:=aF) (Q:=fun n => -9223372036854775808≤n∧n<9223372036854775808) (fun ps h=>h) h2
    exact⟨m,h1,hm,by rw [List.length_map]at h3;simp only [maxLen]at h3;omega⟩
set_option maxRecDepth 100000 in
theorem lifted(os:Os)(started:os.Started)(H:Type)(enc:TypeId × Value→H) :
    ReturnsInHanded {} Tryz.checked os 4 .any (Rows.predTotalSpec.pre6 enc Tryz.prog Tryz.f4 Rows.predTotalRow.domain false) (Rows.predTotalSpec.post enc Tryz.prog Tryz.f4 false true false false):=by
  refine abu (C:=Tryz.checked) (Qs:=[fun q=>∃l:List PT,q=aJ gT l∧(∀p∈l,p.In ∧ -9223372036854775808≤p.id∧p.id<9223372036854775808)∧l.length<9223372036854775808,fun q=>∃l:List Int,q=aJ aF l∧(∀x∈l, -9223372036854775808≤x∧x<9223372036854775808)∧l.length<9223372036854775808,fun q=>∃n:Int,q = .int .i64 n ∧ -9223372036854775808≤n∧n<9223372036854775808]) (tb:=4) own laidOut started (by kernel_rfl) Tryz.func4
    (ChangeSpec.witness6 (enc:=enc) (C:=Tryz.checked) false ⟨#[], #[.slice none 0 0, .slice none 0 0, .int .i64 0],[]⟩ 16 (by kernel_rfl) (by kernel_rfl) (by kernel_rfl) (by kernel_rfl)) rfl ?_ (by kernel_rfl) (by kernel_rfl) ?_ ?_
  · intro ds h
    rw [show Tryz.f4.params.size=3 by kernel_rfl]at h
    match ds,h with
    | [_,_,_],_=>rfl
  · rw [show Tryz.f4.params.toList = [62,22,3]by kernel_rfl]
    exact⟨M6,by kernel_rfl,of_decide_eq_true (by kernel_rfl),adB,by kernel_rfl,of_decide_eq_true (by kernel_rfl),afR,by kernel_rfl,of_decide_eq_true (by kernel_rfl),trivial⟩
  · rintro ps h
    obtain⟨_,_,rfl,⟨a0,rfl,h0,g0⟩,⟨_,_,rfl,⟨a1,rfl,h1,g1⟩,⟨_,_,rfl,⟨a2,rfl,h2⟩,rfl⟩⟩⟩:=h
    exact ED a0 a1 a2 h0 g0 h1 g1 h2
theorem z1:(Rows.predTotalRow.inPlace==Tryz.pinned.checked.prog.inPlace 4)=true:=by kernel_rfl
theorem z2:(Rows.predTotalRow.unfollowed==Tryz.pinned.checked.prog.unfollowed 4)=true:=by kernel_rfl
theorem z3:(Rows.predTotalRow.recurses==Tryz.pinned.checked.prog.recurses 4)=true:=by kernel_rfl
theorem z4:(Rows.predTotalRow.named==Tryz.pinned.checked.prog.varsNamed 4)=true:=by kernel_rfl
theorem closed:joinedFacts Tryz.pinned.checked.prog 4 Tryz.f4 Rows.predTotalSpec Rows.predTotalRow=true:=by
  unfold joinedFacts
  rw [z1,z2,z3,z4]
  kernel_rfl
theorem proved:Rows.PredTotalSaid:=
  OpenClaim.holds_of_wide 4 Tryz.f4 rfl rfl rfl rfl rfl rfl rfl ⟨rfl,rfl,rfl,rfl,rfl⟩ rfl rfl rfl rfl rfl (by kernel_rfl) Tryz.func4 closed
    (of_decide_eq_true (by kernel_rfl)) (by unfold Func.isWrapper;first | (rw [if_pos (by decide +kernel)];kernel_rfl) | (rw [if_neg (by decide +kernel)];exact⟨rfl,rfl⟩))
    (fun os started H enc _=>lifted os started H enc)
#print axioms proved
end Go.Proofs.YtiobceocpabjdaaGreat.predTotal
