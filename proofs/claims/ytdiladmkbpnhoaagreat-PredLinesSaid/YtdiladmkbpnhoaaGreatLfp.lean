import Derived.Test.YtdiladmkbpnhoaaGreatLfg
import Derived.Test.YtdiladmkbpnhoaaGreatLfn
set_option linter.unusedSimpArgs false
set_option linter.unusedVariables false
namespace Go.Proofs.YtdiladmkbpnhoaaGreat
open Go Pm
def cross (x : List Int) (d : Int) (y : List Int) (e : Int) : List Int := padd (x.map (· * e)) ((pneg y).map (· * d))
theorem addQ_cross {d e : Int} (hd : d ≠ 0) (he : e ≠ 0) (x y : List Int) : addQ (qd x d) (qd (pneg y) e) = qd (cross x d y e) (d * e) := by
 rw [← qd_mul hd he x, ← qd_mul he hd (pneg y), Int.mul_comm e d, addQ_qd (Int.mul_ne_zero hd he)]
 rfl
theorem cross_nil {d e : Int} (hd : d ≠ 0) (he : e ≠ 0) {x y : List Int} (cx : Cn x) (cy : Cn y) : cross x d y e = [] ↔ x.map (· * e) = y.map (· * d) := by
 have hv : ∀ t, V t (cross x d y e) = V t x * e - V t y * d := fun t => by
  rw [cross, V_padd, V_mapmul, V_mapmul, V_pneg, Int.neg_mul]; omega
 constructor
 ·intro h
  refine Cn.ext (Cn_map_mul cx he) (Cn_map_mul cy hd) fun t => ?_
  have := hv t
  rw [h] at this
  rw [V_mapmul, V_mapmul]
  simp only [V] at this
  omega
 ·intro h
  refine Cn.ext (Cn.padd _ _) Cn.nil fun t => ?_
  rw [hv t, ← V_mapmul, ← V_mapmul, h]
  simp only [V]; omega
theorem CV.one {a b : CV} (ha : a.OK) (hb : b.OK) : (a.x.map (· * b.d) = b.x.map (· * a.d) ∧ a.y.map (· * b.d) = b.y.map (· * a.d)) ↔ (a.x = b.x ∧ a.y = b.y ∧ a.d = b.d) := by
 have pa := ha.pos
 have pb := hb.pos
 constructor
 ·rintro ⟨h1, h2⟩
  have e : (a.d :: (a.x ++ a.y)).map (· * b.d) = (b.d :: (b.x ++ b.y)).map (· * a.d) := by
   simp only [List.map_cons, List.map_append, h1, h2, Int.mul_comm a.d b.d]
  have g1 := gcdL_scale b.d (a.d :: (a.x ++ a.y))
  have g2 := gcdL_scale a.d (b.d :: (b.x ++ b.y))
  rw [e, g2, ha.gcd, hb.gcd] at g1
  have hd : a.d = b.d := by omega
  refine ⟨?_, ?_, hd⟩
  ·refine Cn.ext ha.cx hb.cx fun t => ?_
   have := congrArg (V t) h1
   rw [V_mapmul, V_mapmul, hd] at this
   exact Int.eq_of_mul_eq_mul_right (by omega) this
  ·refine Cn.ext ha.cy hb.cy fun t => ?_
   have := congrArg (V t) h2
   rw [V_mapmul, V_mapmul, hd] at this
   exact Int.eq_of_mul_eq_mul_right (by omega) this
 ·rintro ⟨h1, h2, h3⟩
  rw [h1, h2, h3]; exact ⟨rfl, rfl⟩
theorem qSubD_ret {x y : List Int} {d e : Int} {s n : Nat} (hd : d ≠ 0) (he : e ≠ 0) (hx : Bd 2 s n x) (hy : Bd 2 s n y) (zd : sz 2 d ≤ s) (ze : sz 2 e ≤ s) (hs : s ≤ YY) (hn : n < 1099511627776) : Ret env.P 218 [PP (qd x d), PP (qd y e)] (PP (qd (cross x d y e) (d * e))) := by
 have := qSub_ret (qd x d) (qd y e) (qd (pneg y) e) (QOK_qd hd hx zd hs hn) (QOK_qd he hy ze hs hn) (negQ_qd he y) (QOK_qd he (Bd.pneg hy) ze hs hn)
 rw [addQ_cross hd he] at this
 exact this
end Go.Proofs.YtdiladmkbpnhoaaGreat
namespace Go.Proofs.YtdiladmkbpnhoaaGreat
open Go Pm
theorem tk {w n : Nat} {x y : List PV} (h : x.length = w) : (x ++ y).take (w + n) = x ++ y.take n := by
 rw [List.take_append, List.take_of_length_le (by omega), h, Nat.add_sub_cancel_left]
theorem dp {w n : Nat} {x y : List PV} (h : x.length = w) : (x ++ y).drop (w + n) = y.drop n := by
 rw [List.drop_append, List.drop_of_length_le (by omega), List.nil_append, h, Nat.add_sub_cancel_left]
def blocks (A : Nat → List PV) (z : List PV) (i : Nat) : List PV := (if 0 < i then A 0 else z) ++ ((if 1 < i then A 1 else z) ++ ((if 2 < i then A 2 else z) ++ ((if 3 < i then A 3 else z) ++ [])))
section
variable {A : Nat → List PV} {z : List PV} {w : Nat}
theorem blk_l (hA : ∀ k, (A k).length = w) (hz : z.length = w) (k i : Nat) : (if k < i then A k else z).length = w := by split <;> simp [hA, hz]
theorem blk_len (hA : ∀ k, (A k).length = w) (hz : z.length = w) (i : Nat) : (blocks A z i).length = 4 * w := by
 simp only [blocks, List.length_append, blk_l hA hz, List.length_nil]; omega
theorem blk_set (hA : ∀ k, (A k).length = w) (hz : z.length = w) : ∀ i, i < 4 → (blocks A z i).take (i * w) ++ A i ++ (blocks A z i).drop (i * w + w) = blocks A z (i + 1)
 | 0, _ => by
  rw [show 0 * w = 0 by omega, show 0 + w = w + 0 by omega]
  unfold blocks
  rw [dp (blk_l hA hz _ _)]
  simp
 | 1, _ => by
  rw [show 1 * w + w = w + (w + 0) by omega, show 1 * w = w + 0 by omega]
  unfold blocks
  rw [dp (blk_l hA hz _ _), dp (blk_l hA hz _ _), tk (blk_l hA hz _ _)]
  simp
 | 2, _ => by
  rw [show 2 * w + w = w + (w + (w + 0)) by omega, show 2 * w = w + (w + 0) by omega]
  unfold blocks
  rw [dp (blk_l hA hz _ _), dp (blk_l hA hz _ _), dp (blk_l hA hz _ _), tk (blk_l hA hz _ _), tk (blk_l hA hz _ _)]
  simp
 | 3, _ => by
  rw [show 3 * w + w = w + (w + (w + (w + 0))) by omega, show 3 * w = w + (w + (w + 0)) by omega]
  unfold blocks
  rw [dp (blk_l hA hz _ _), dp (blk_l hA hz _ _), dp (blk_l hA hz _ _), dp (blk_l hA hz _ _), tk (blk_l hA hz _ _), tk (blk_l hA hz _ _), tk (blk_l hA hz _ _)]
  simp
 | i + 4, h => by omega
theorem blk_get (hA : ∀ k, (A k).length = w) (hz : z.length = w) : ∀ i, i < 4 → ((blocks A z (i + 1)).drop (i * w)).take w = A i
 | 0, _ => by
  rw [show 0 * w = 0 by omega, List.drop_zero, show List.take w (blocks A z (0 + 1)) = List.take (w + 0) (blocks A z (0 + 1)) from rfl]
  unfold blocks
  rw [tk (blk_l hA hz _ _)]
  simp
 | 1, _ => by
  rw [show 1 * w = w + 0 by omega]
  unfold blocks
  rw [dp (blk_l hA hz _ _), List.drop_zero, show ∀ l : List PV, List.take w l = List.take (w + 0) l from fun _ => rfl, tk (blk_l hA hz _ _)]
  simp
 | 2, _ => by
  rw [show 2 * w = w + (w + 0) by omega]
  unfold blocks
  rw [dp (blk_l hA hz _ _), dp (blk_l hA hz _ _), List.drop_zero, show ∀ l : List PV, List.take w l = List.take (w + 0) l from fun _ => rfl, tk (blk_l hA hz _ _)]
  simp
 | 3, _ => by
  rw [show 3 * w = w + (w + (w + 0)) by omega]
  unfold blocks
  rw [dp (blk_l hA hz _ _), dp (blk_l hA hz _ _), dp (blk_l hA hz _ _), List.drop_zero, show ∀ l : List PV, List.take w l = List.take (w + 0) l from fun _ => rfl, tk (blk_l hA hz _ _)]
  simp
 | i + 4, h => by omega
theorem blk_skip {i : Nat} (hi : i < 4) (h : A i = z) : blocks A z i = blocks A z (i + 1) := by
 match i, hi with
 | 0, _ => simp [blocks, h]
 | 1, _ => simp [blocks, h]
 | 2, _ => simp [blocks, h]
 | 3, _ => simp [blocks, h]
end
end Go.Proofs.YtdiladmkbpnhoaaGreat
namespace Go.Proofs.YtdiladmkbpnhoaaGreat
open Go Pm
structure PT where
 c : RC
 id : Int
instance : Inhabited PT := ⟨⟨⟨[], [], false, []⟩, 0⟩⟩
def ptc (p : PT) : List PV := [Pg p.c.x, Pg p.c.y, .bool p.c.s, sls u32 p.c.l, .int .i64 p.id]
@[simp] theorem ptc_def {p : PT} : ptc p = [Pg p.c.x, Pg p.c.y, .bool p.c.s, sls u32 p.c.l, .int .i64 p.id] := rfl
@[simp] theorem lenAll_ptc {l : List PT} : lenAll 5 (emap ptc l) = True := lenAll_emap fun _ => rfl
structure PT.In (p : PT) : Prop where
 x : InP p.c.x
 y : InP p.c.y
 l : Lim 4294967296 p.c.l
 ll : p.c.l.length < 9223372036854775808
def fourC (l : List PT) (k : Nat) : RC := if k < l.length then (nth l k).c.cut 3 1 else ⟨[], [], false, []⟩
def fourA (l : List PT) (k : Nat) : List PV := if k < l.length then ((nth l k).c.cut 3 1).cells else [.nil, .nil, .bool false, .nil]
theorem fourC_small {l : List PT} (h : ∀ p ∈ l, p.In) (k : Nat) : (fourC l k).Small 3 1 := by
 unfold fourC
 split
 ·rename_i hk
  have hp := h _ (nth_mem hk)
  exact ⟨Sm.keep hp.x 3 1, Sm.keep hp.y 3 1, hp.l.take 1, by show (List.take 1 _).length ≤ 1; simp; omega, by decide, by decide, by decide⟩
 ·exact ⟨Sm.nil 3 1, Sm.nil 3 1, Lim.nil, by decide, by decide, by decide, by decide⟩
set_option maxHeartbeats 2000000 in
theorem four_ret (l : List PT) (h : ∀ p ∈ l, p.In) (hl : l.length < 9223372036854775808) : Ret env.P 28 [sls ptc l] (.tup [.ag ((fourC l 0).cells ++ ((fourC l 1).cells ++ ((fourC l 2).cells ++ ((fourC l 3).cells ++ [])))), .ag ((fourC l 0).nc.doc ++ ((fourC l 1).nc.doc ++ ((fourC l 2).nc.doc ++ ((fourC l 3).nc.doc ++ []))))]) := by
 have hF : ∀ k, Ret env.P 96 [.ag (fourC l k).cells] (.ag (fourC l k).nc.doc) := fun k => From12_ret (fourC_small h k)
 have hC : ∀ k, k < l.length → Ret env.P 95 [.ag [Pg (nth l k).c.x, Pg (nth l k).c.y, .bool (nth l k).c.s, sls u32 (nth l k).c.l], .int .i64 3, .int .i64 1] (.ag (fourC l k).cells) := fun k hk => by
  have hp := h _ (nth_mem hk)
  have := Cut12_ret (nth l k).c 3 1 hp.x.len (fun e he => (hp.x.ok e he).2) hp.y.len (fun e he => (hp.y.ok e he).2) hp.ll (by decide) (by decide)
  rw [show fourC l k = (nth l k).c.cut 3 1 from if_pos hk]
  exact this
 have hA : ∀ k, (fourA l k).length = 4 := fun k => by unfold fourA; split <;> rfl
 have hB : ∀ k, (fourC l k).nc.doc.length = 6 := fun k => rfl
 have hA1 : ∀ k, k < l.length → fourA l k = (fourC l k).cells := fun k hk => by unfold fourA fourC; rw [if_pos hk, if_pos hk]
 have hA2 : ∀ k, ¬ k < l.length → fourA l k = [.nil, .nil, .bool false, .nil] ∧ fourC l k = ⟨[], [], false, []⟩ := fun k hk => by unfold fourA fourC; rw [if_neg hk, if_neg hk]; exact ⟨rfl, rfl⟩
 generalize fourC l = C at *
 generalize fourA l = A at *
 have i0 : blocks A [.nil, .nil, .bool false, .nil] 0 = [.nil, .nil, .bool false, .nil, .nil, .nil, .bool false, .nil, .nil, .nil, .bool false, .nil, .nil, .nil, .bool false, .nil] := rfl
 have i0' : blocks (fun k => (C k).nc.doc) [.nil, .nil, .nil, .nil, .bool false, .nil] 0 = [.nil, .nil, .nil, .nil, .bool false, .nil, .nil, .nil, .nil, .nil, .bool false, .nil, .nil, .nil, .nil, .nil, .bool false, .nil, .nil, .nil, .nil, .nil, .bool false, .nil] := rfl
 refine ret_of_Wf (E := env) (fun _ => 0) [(0, sls ptc l)] Tryz.func28 rfl (by kernel_rfl) (by kernel_rfl) (show 1 ≤ 31 by decide) (by simp) ?_
 refine W.sreg (fun K hK => ?_); simp (disch := omega) [gA, wA]; refine W.lv [0, 2, 3] hK fun J j => ?_; clear hK K; simp; refine j _ ?_; clear j J
 refine W.sreg (fun K hK => ?_); simp (disch := omega) [gA, wA]; refine W.lv [0, 2, 3, 4] hK fun J j => ?_; clear hK K; simp; refine j _ ?_; clear j J
 refine W.sreg (fun K hK => ?_); simp (disch := omega) [gA, wA]; refine W.lv [0, 2, 3, 4, 5] hK fun J j => ?_; clear hK K; simp; refine j _ ?_; clear j J
 refine W.seq ?_
 refine W.sreg (fun K hK => ?_); simp (disch := omega) [gA, wA]; refine W.lv [0, 2, 3, 4, 5, 6] hK fun J j => ?_; clear hK K; simp; refine j _ ?_; clear j J
 refine W.block ?_
 refine W.loopG (fun k σ => ∃ (i v2 v3 v4 v5 e2 e3 e4 e5 : Nat) (L2 L3 : List PV) (rows : Pm.Rows) (clk : Nat), σ = ⟨fa [(0, sls ptc l), (2, .ptr 2 v2 0 0), (3, .ptr 3 v3 0 0), (4, .ptr 4 v4 0 0), (5, .ptr 5 v5 0 0), (6, .int .i64 i)], rows, clk⟩ ∧
  rows 2 = some ⟨v2, e2, 16, [L2]⟩ ∧ rows 3 = some ⟨v3, e3, 24, [L3]⟩ ∧ L2.length = 16 ∧ L3.length = 24 ∧ rows 4 = some ⟨v4, e4, 16, [blocks A [.nil, .nil, .bool false, .nil] i]⟩ ∧ rows 5 = some ⟨v5, e5, 24, [blocks (fun k => (C k).nc.doc) [.nil, .nil, .nil, .nil, .bool false, .nil] i]⟩ ∧ i + k = 4) 4 ?_ ?_
 ·exact ⟨_, .refl, 0, _, _, _, _, _, _, _, _, _, _, _, _, rfl, by simp; exact ⟨rfl, rfl⟩, by simp; exact ⟨rfl, rfl⟩, by simp, by simp, by rw [i0]; simp; rfl, by rw [i0']; simp; rfl, by omega⟩
 rintro k _ ⟨i, v2, v3, v4, v5, e2, e3, e4, e5, L2, L3, rows, clk, rfl, hr2, hr3, hL2, hL3, hr4, hr5, hik⟩
 refine W.seq ?_
 refine W.sreg (fun K hK => ?_); simp (disch := omega) [gA, wA]; refine W.lv [0, 2, 3, 4, 5, 6, 8] hK fun J j => ?_; clear hK K; simp; refine j _ ?_; clear j J
 refine W.cond ⟨_, rfl, fun h => ?_, fun h => ?_⟩
 ·have hi : i < 4 := by simp at h; omega
  have sA := blk_set hA (z := [.nil, .nil, .bool false, .nil]) rfl i hi
  have gA := blk_get hA (z := [.nil, .nil, .bool false, .nil]) rfl i hi
  have lA := blk_len hA (z := [.nil, .nil, .bool false, .nil]) rfl i
  have lA' := blk_len hA (z := [.nil, .nil, .bool false, .nil]) rfl (i + 1)
  have sB := blk_set hB (z := [.nil, .nil, .nil, .nil, .bool false, .nil]) rfl i hi
  have lB := blk_len hB (z := [.nil, .nil, .nil, .nil, .bool false, .nil]) rfl i
  have kA : A i = [.nil, .nil, .bool false, .nil] → blocks A [.nil, .nil, .bool false, .nil] i = blocks A [.nil, .nil, .bool false, .nil] (i + 1) := blk_skip hi
  have hCi := hC i
  have hFi := hF i
  have hA1i := hA1 i
  have hA2i := hA2 i
  generalize hEA' : blocks A [.nil, .nil, .bool false, .nil] (i + 1) = EA' at *
  generalize blocks A [.nil, .nil, .bool false, .nil] i = EA at *
  generalize hEB' : blocks (fun k => (C k).nc.doc) [.nil, .nil, .nil, .nil, .bool false, .nil] (i + 1) = EB' at *
  generalize blocks (fun k => (C k).nc.doc) [.nil, .nil, .nil, .nil, .bool false, .nil] i = EB at *
  simp only [CV.doc_def] at sB hFi
  have bA : i * 4 + 4 ≤ EA.length := by rw [lA]; omega
  have bA' : i * 4 + 4 ≤ EA'.length := by rw [lA']; omega
  have bB : i * 6 + 6 ≤ EB.length := by rw [lB]; omega
  refine W.skip ?_
  refine W.seq ?_
  refine W.block ?_
  by_cases hil : i < l.length
  ·have hCi := hCi hil
   rw [hA1i hil] at sA gA
   simp only [RC.cells_def] at hCi hFi sA gA
   refine W.seqJ (fun σ => ∃ (v4 e4 : Nat) (rows : Pm.Rows) (clk : Nat), σ = ⟨fa [(0, sls ptc l), (2, .ptr 2 v2 0 0), (3, .ptr 3 v3 0 0), (4, .ptr 4 v4 0 0), (5, .ptr 5 v5 0 0), (6, .int .i64 i)], rows, clk⟩ ∧
    rows 2 = some ⟨v2, e2, 16, [L2]⟩ ∧ rows 3 = some ⟨v3, e3, 24, [L3]⟩ ∧ rows 4 = some ⟨v4, e4, 16, [EA']⟩ ∧ rows 5 = some ⟨v5, e5, 24, [EB]⟩) ?_ ?_
   ·refine W.sreg (fun K hK => ?_); simp (disch := omega) [gA, wA]; refine W.lv [0, 2, 3, 4, 5, 6, 14] hK fun J j => ?_; clear hK K; simp; refine j _ ?_; clear j J
    refine W.cond ⟨_, rfl, fun h => ?_, fun h => ?_⟩
    ·refine W.reg (fun K hK => ?_)
     simp (disch := omega) [gA, wA, hil]
     refine callR hCi ?_
     simp (disch := omega) [gA, wA, hr4, hi, bA, sA]
     exact hK _ ⟨_, Gh_fa _ [0, 2, 3, 4, 5, 6], _, _, _, _, rfl, by simp [hr2], by simp [hr3], by simp; exact ⟨rfl, by simpa using sA⟩, by simp [hr5]⟩
    ·simp at h; omega
   rintro _ ⟨v4, e4, rows, clk, rfl, hr2, hr3, hr4, hr5⟩
   refine W.reg (fun K hK => ?_)
   simp (disch := omega) [gA, wA, hr4, gA, hi, bA']
   refine callR hFi ?_
   simp (disch := omega) [gA, wA, hr5, hi, bB, sB]
   refine W.lv [0, 2, 3, 4, 5, 6] hK fun J j => ?_; clear hK K; simp; refine j _ ?_; clear j J
   refine W.reg (fun K hK => ?_); simp (disch := omega) [gA, wA]
   refine hK _ ⟨k - 1, _, Gh_fa _ [0, 2, 3, 4, 5, 6], by omega, i + 1, v2, v3, v4, v5, _, _, _, _, L2, L3, _, _, rfl, by simp [hr2]; exact rfl, by simp [hr3]; exact rfl, hL2, hL3, by simp [hr4]; exact ⟨rfl, hEA'.symm⟩, by simp; exact ⟨rfl, Eq.trans (by simpa using sB) hEB'.symm⟩, by omega⟩
  ·obtain ⟨kA1, kA2⟩ := hA2i hil
   rw [kA1] at gA
   rw [kA2] at hFi sB
   have kA := kA kA1
   subst kA
   refine W.seqJ (fun σ => ∃ (rows : Pm.Rows) (clk : Nat), σ = ⟨fa [(0, sls ptc l), (2, .ptr 2 v2 0 0), (3, .ptr 3 v3 0 0), (4, .ptr 4 v4 0 0), (5, .ptr 5 v5 0 0), (6, .int .i64 i)], rows, clk⟩ ∧
    rows 2 = some ⟨v2, e2, 16, [L2]⟩ ∧ rows 3 = some ⟨v3, e3, 24, [L3]⟩ ∧ rows 4 = some ⟨v4, e4, 16, [EA]⟩ ∧ rows 5 = some ⟨v5, e5, 24, [EB]⟩) ?_ ?_
   ·refine W.sreg (fun K hK => ?_); simp (disch := omega) [gA, wA]; refine W.lv [0, 2, 3, 4, 5, 6, 14] hK fun J j => ?_; clear hK K; simp; refine j _ ?_; clear j J
    refine W.cond ⟨_, rfl, fun h => ?_, fun h => ?_⟩
    ·simp at h; omega
    ·refine W.skip ?_
     exact ⟨_, Gh_fa _ [0, 2, 3, 4, 5, 6], _, _, rfl, by simp [hr2], by simp [hr3], by simp [hr4], by simp [hr5]⟩
   rintro _ ⟨rows, clk, rfl, hr2, hr3, hr4, hr5⟩
   refine W.reg (fun K hK => ?_)
   simp (disch := omega) [gA, wA, hr4, gA, hi, bA']
   refine callR hFi ?_
   simp (disch := omega) [gA, wA, hr5, hi, bB, sB]
   refine W.lv [0, 2, 3, 4, 5, 6] hK fun J j => ?_; clear hK K; simp; refine j _ ?_; clear j J
   refine W.reg (fun K hK => ?_); simp (disch := omega) [gA, wA]
   refine hK _ ⟨k - 1, _, Gh_fa _ [0, 2, 3, 4, 5, 6], by omega, i + 1, v2, v3, v4, v5, _, _, _, _, L2, L3, _, _, rfl, by simp [hr2]; exact rfl, by simp [hr3]; exact rfl, hL2, hL3, by simp [hr4]; exact ⟨rfl, hEA'.symm⟩, by simp; exact ⟨rfl, Eq.trans (by simpa using sB) hEB'.symm⟩, by omega⟩
 ·have hi : i = 4 := by simp at h; omega
  subst hi
  refine W.exit ?_; simp only [pX, if_true, if_false, reduceIte, Nat.reduceEqDiff]
  have b4 : blocks A [.nil, .nil, .bool false, .nil] 4 = A 0 ++ (A 1 ++ (A 2 ++ (A 3 ++ []))) := by simp [blocks]
  have b5 : blocks (fun k => (C k).nc.doc) [.nil, .nil, .nil, .nil, .bool false, .nil] 4 = (C 0).nc.doc ++ ((C 1).nc.doc ++ ((C 2).nc.doc ++ ((C 3).nc.doc ++ []))) := by simp [blocks]
  rw [b4] at hr4
  rw [b5] at hr5
  have hz : ∀ k, (A k = (C k).cells) ∨ (A k = [.nil, .nil, .bool false, .nil] ∧ C k = ⟨[], [], false, []⟩) := fun k => by
   by_cases hk : k < l.length
   ·exact .inl (hA1 k hk)
   ·exact .inr (hA2 k hk)
  generalize (C 0).nc = n0 at *
  generalize (C 1).nc = n1 at *
  generalize (C 2).nc = n2 at *
  generalize (C 3).nc = n3 at *
  simp only [CV.doc_def, List.cons_append, List.nil_append] at hr5
  have d2 : List.drop 16 L2 = [] := List.drop_eq_nil_of_le (by omega)
  have d3 : List.drop 24 L3 = [] := List.drop_eq_nil_of_le (by omega)
  have hn1 : Pg [] = PV.sl [] := rfl
  have hn2 : sls u32 ([] : List Int) = PV.sl [] := rfl
  have z0 := hz 0
  have z1 := hz 1
  have z2 := hz 2
  have z3 := hz 3
  rcases z0 with z0 | ⟨z0, c0⟩ <;> rcases z1 with z1 | ⟨z1, c1⟩ <;> rcases z2 with z2 | ⟨z2, c2⟩ <;> rcases z3 with z3 | ⟨z3, c3⟩ <;>
  ·rw [z0, z1, z2, z3] at hr4
   simp only [RC.cells_def, List.cons_append, List.nil_append] at hr4
   refine W.sdrw (fun K hK => ?_)
   simp (disch := omega) [gA, wA, hr4, hr5, hr2, hr3, hL2, hL3, d2, d3]
   rw [if_pos (by kernel_rfl)]
   simp (disch := omega) [gA, wA, hr3, hL3, d3]
   refine W.lv [2, 3] hK fun J j => ?_; clear hK K; simp; refine j _ ?_; clear j J
   refine W.ret ?_
   simp only [RC.cells_def, CV.doc_def, List.cons_append, List.nil_append]
   try rw [c0]
   try rw [c1]
   try rw [c2]
   try rw [c3]
   simp [go]
   try simp only [hn1, hn2, and_self]
end Go.Proofs.YtdiladmkbpnhoaaGreat
namespace Go.Proofs.YtdiladmkbpnhoaaGreat
open Go Pm
theorem opn_Curve : Opn Tryz.prog 29 (fun ps => ∃ c : RC, ps = c.cells ∧ InP c.x ∧ InP c.y ∧ InL c.l) :=
 (Opn.struct (fs := [⟨ "X", 24, 0, false, "", "", 0⟩, ⟨ "Y", 24, 1, false, "", "", 24⟩, ⟨ "D", 27, 2, false, "", "", 48⟩]) (Rs := [fun ps => ∃ p : RP, ps = pe p ∧ InP p, fun ps => ∃ p : RP, ps = pe p ∧ InP p, fun ps => ∃ c : Bool × List Int, ps = ge c ∧ InL c.2]) (by kernel_rfl)
  ⟨rfl, opn_Poly, by kernel_rfl, opn_Poly, by kernel_rfl, opn_Int, by show (_ : Nat) = _; kernel_rfl⟩).mono fun ps h => by
  simp only [Each] at h
  obtain ⟨a, b, rfl, ⟨x, rfl, hx⟩, a', b', rfl, ⟨y, rfl, hy⟩, a'', b'', rfl, ⟨d, rfl, hd⟩, rfl⟩ := h
  exact ⟨⟨x, y, d.1, d.2⟩, rfl, hx, hy, hd⟩
theorem opn_Point : Opn Tryz.prog 138 (fun ps => ∃ p : PT, ps = ptc p ∧ p.In) :=
 (Opn.struct (fs := [⟨ "Curve", 29, 0, true, "", "", 0⟩, ⟨ "Id", 3, 4, false, "", "", 80⟩]) (Rs := [fun ps => ∃ c : RC, ps = c.cells ∧ InP c.x ∧ InP c.y ∧ InL c.l, fun ps => ∃ n : Int, ps = [.int .i64 n] ∧ (IntKind.min .i64) ≤ n ∧ n ≤ (IntKind.max .i64)]) (by kernel_rfl)
  ⟨rfl, opn_Curve, by kernel_rfl, Opn.int .i64 (by kernel_rfl), by show (_ : Nat) = _; kernel_rfl⟩).mono fun ps h => by
  simp only [Each] at h
  obtain ⟨a, b, rfl, ⟨c, rfl, hx, hy, hd⟩, a', b', rfl, ⟨n, rfl, hn⟩, rfl⟩ := h
  exact ⟨⟨c, n⟩, rfl, hx, hy, hd.lim, hd.len⟩
theorem arg_Points : OpnA Tryz.prog 54 (fun q => ∃ l : List PT, q = sls ptc l ∧ (∀ p ∈ l, p.In) ∧ l.length < 9223372036854775808) :=
 (OpnA.slice (e := 138) (by kernel_rfl) (by rw [show Tryz.prog.cellsOf 138 = 5 by kernel_rfl]; decide) opn_Point).mono fun q ⟨l, h1, h2, h3⟩ => by
  obtain ⟨m, rfl, hm⟩ := maps (g := ptc) (Q := PT.In) (fun ps h => h) h2
  exact ⟨m, h1, hm, by rw [List.length_map] at h3; simp only [maxLen] at h3; omega⟩
theorem Sz31 {c : RC} (h : c.Small 3 1) : c.nc.Sz 32 3 := by
 obtain ⟨x, y, d, _⟩ := h.bd2
 exact ⟨x, y, d, by decide, by decide, by decide⟩
end Go.Proofs.YtdiladmkbpnhoaaGreat
