import Derived.Test.YtdiladmkbpnhoaaGreatLeh
set_option linter.unusedSimpArgs false
set_option linter.unusedVariables false
namespace Go.Proofs.YtdiladmkbpnhoaaGreat
open Go Pm
theorem BZ.mulc {s s' n n' m : Nat} {a c : ZX} (b : BZ s n a) (b' : BZ s' n' c) (hm : ZX.N (a * c) ≤ m) : BZ (s + s' + n') m (a * c) := by
 have h := Bd.pmul (by decide) b' b
 rw [pmul_comm] at h
 exact ⟨hm, fun d hd => Nat.le_trans (h.sz d hd) (by omega)⟩
theorem powS {f : ZX} (hf : f ≠ 0) (bf : BZ 3 3 f) : ∀ k, 1 ≤ k → BZ (6 * k) (2 * k + 1) (f ^ k) ∧ f ^ k ≠ 0 ∧ ZX.N (f ^ k) = k * (ZX.N f - 1) + 1
 | 0, h => by omega
 | 1, _ => by
  have e : f ^ 1 = f := by rw [ZX.pow_succ', ZX.pow_zero']; grind
  rw [e]
  have := ZX.ne_zero.1 hf
  exact ⟨bf.mono (by omega) (by omega), hf, by omega⟩
 | k + 2, _ => by
  obtain ⟨h1, h2, h3⟩ := powS hf bf (k + 1) (by omega)
  have hN := ZX.ne_zero.1 hf
  have e : ZX.N (f ^ (k + 2)) = (k + 2) * (ZX.N f - 1) + 1 := by
   rw [ZX.pow_succ', ZX.N_mul h2 hf, h3, Nat.add_mul, Nat.add_mul]; omega
  have hl : ZX.N f ≤ 3 := bf.N
  refine ⟨?_, ZX.mul_ne h2 hf, e⟩
  have h4 := BZ.mulc h1 bf (m := 2 * (k + 2) + 1) (by
   rw [← ZX.pow_succ', e]
   have : (k + 2) * (ZX.N f - 1) ≤ (k + 2) * 2 := Nat.mul_le_mul_left _ (by omega)
   omega)
  rw [ZX.pow_succ']
  exact h4.mono (by omega) (Nat.le_refl _)
theorem lin_ok {x : List Int} (hx : x ≠ []) (hl : x.length ≤ 3) (hc : ∀ c ∈ x, c.natAbs < 8) (hlast : x.getLast hx ≠ 0) : BZ 3 3 (ZX.of x) ∧ (ZX.of x).l = x ∧ ZX.of x ≠ 0 := by
 have h1 : cutR x = x := by
  obtain ⟨y, z, rfl⟩ : ∃ y z, x = y ++ [z] := ⟨x.dropLast, x.getLast hx, (List.dropLast_concat_getLast hx).symm⟩
  exact cutR_ne (by simpa using hlast) y
 have h2 : (ZX.of x).l = x := h1
 refine ⟨⟨by rw [h2]; exact hl, fun c hcc => ?_⟩, h2, ZX.ne_zero.2 ?_⟩
 ·rw [h2] at hcc
  exact sz_le (by decide) (by have := hc c hcc; show _ < 8; exact this)
 ·show 0 < (ZX.of x).l.length
  rw [h2]; exact List.length_pos_iff.2 hx
def mfac (l : List Int) (i : Nat) : List Int :=
 if (nth l i).tmod 5 = 3 then [-(nth l i % 9 - 4), nth l (i + 2) % 3 - 1, nth l (i + 1) % 5 + 1] else [-(nth l i % 9 - 4), nth l (i + 1) % 5 + 1]
def mexp (l : List Int) (i : Nat) : Nat := 1 + (nth l (i + 2) % 3).toNat
def mstep (l : List Int) (most i : Nat) (p : ZX) : ZX := if most < ZX.N p - 1 + mexp l i * (ZX.N (ZX.of (mfac l i)) - 1) then p else p * ZX.of (mfac l i) ^ mexp l i
def mades (l : List Int) (most : Nat) : Nat → ZX
 | 0 => 1
 | j + 1 => mstep l most (3 * j) (mades l most j)
def made (l : List Int) (most : Nat) : ZX := if (0 < l.length ∧ (nth l 0).tmod 7 = 6) then ZX.K (-3) * mades l most (min 6 (l.length / 3)) else mades l most (min 6 (l.length / 3))
theorem mfac_ok (l : List Int) (i : Nat) : BZ 3 3 (ZX.of (mfac l i)) ∧ (ZX.of (mfac l i)).l = mfac l i ∧ ZX.of (mfac l i) ≠ 0 := by
 have h9 := Int.emod_nonneg (nth l i) (show (9 : Int) ≠ 0 by decide)
 have h9' := Int.emod_lt_of_pos (nth l i) (show (0 : Int) < 9 by decide)
 have h5 := Int.emod_nonneg (nth l (i + 1)) (show (5 : Int) ≠ 0 by decide)
 have h5' := Int.emod_lt_of_pos (nth l (i + 1)) (show (0 : Int) < 5 by decide)
 have h3 := Int.emod_nonneg (nth l (i + 2)) (show (3 : Int) ≠ 0 by decide)
 have h3' := Int.emod_lt_of_pos (nth l (i + 2)) (show (0 : Int) < 3 by decide)
 unfold mfac
 split
 ·refine lin_ok (by simp) (by simp) (fun c hc => ?_) (by simp; omega)
  simp only [List.mem_cons, List.not_mem_nil, or_false] at hc
  rcases hc with rfl | rfl | rfl <;> omega
 ·refine lin_ok (by simp) (by simp) (fun c hc => ?_) (by simp; omega)
  simp only [List.mem_cons, List.not_mem_nil, or_false] at hc
  rcases hc with rfl | rfl <;> omega
theorem mexp_ok (l : List Int) (i : Nat) : 1 ≤ mexp l i ∧ mexp l i ≤ 3 := by
 have h3 := Int.emod_nonneg (nth l (i + 2)) (show (3 : Int) ≠ 0 by decide)
 have h3' := Int.emod_lt_of_pos (nth l (i + 2)) (show (0 : Int) < 3 by decide)
 unfold mexp; omega
theorem mstep_ok {l : List Int} {most i s : Nat} {p : ZX} (hp : p ≠ 0) (b : BZ s (most + 1) p) : mstep l most i p ≠ 0 ∧ BZ (s + 25) (most + 1) (mstep l most i p) := by
 obtain ⟨b1, b2, b3⟩ := mfac_ok l i
 obtain ⟨e1, e2⟩ := mexp_ok l i
 obtain ⟨h1, h2, h3⟩ := powS b3 b1 _ e1
 unfold mstep
 split
 ·exact ⟨hp, b.mono (by omega) (Nat.le_refl _)⟩
 ·rename_i h
  have hN := ZX.ne_zero.1 hp
  refine ⟨ZX.mul_ne hp h2, (BZ.mulc b h1 (m := most + 1) (by rw [ZX.N_mul hp h2, h3]; omega)).mono (by omega) (Nat.le_refl _)⟩
theorem mades_ok (l : List Int) (most : Nat) : ∀ j, mades l most j ≠ 0 ∧ BZ (1 + 25 * j) (most + 1) (mades l most j)
 | 0 => ⟨ZX.one_ne, by show (1 : ZX).l.length ≤ most + 1; have : (1 : ZX).l.length = 1 := by decide
                       omega, fun c hc => by
  have h1 : (1 : ZX).l = [1] := by decide
  have hc2 : c ∈ (1 : ZX).l := hc
  rw [h1] at hc2
  simp at hc2; subst hc2
  exact sz_le (by decide) (by decide)⟩
 | j + 1 => by
  obtain ⟨h1, h2⟩ := mades_ok l most j
  obtain ⟨h3, h4⟩ := mstep_ok (l := l) (i := 3 * j) h1 h2
  exact ⟨h3, h4.mono (by omega) (Nat.le_refl _)⟩
theorem made_ok (l : List Int) (most : Nat) : made l most ≠ 0 ∧ BZ 153 (most + 1) (made l most) := by
 obtain ⟨h1, h2⟩ := mades_ok l most (min 6 (l.length / 3))
 unfold made
 split
 ·refine ⟨ZX.mul_ne (ZX.K_ne (by decide)) h1, ?_⟩
  rw [BZ, K_l (by decide)]
  exact ⟨by have := h2.len; simpa using this, fun c hc => by
   simp only [List.mem_map] at hc
   obtain ⟨d, hd, rfl⟩ := hc
   exact Nat.le_trans (sz_mul (by decide) (h2.sz d hd) (sz_le (k := 2) (by decide) (by decide))) (by omega)⟩
 ·exact ⟨h1, h2.mono (by omega) (Nat.le_refl _)⟩
theorem Made_ret (l : List Int) (hl : l.length < 9223372036854775808) (hb : ∀ x ∈ l, -9223372036854775808 ≤ x ∧ x < 9223372036854775808) (most : Nat) (hm : most ≤ 100) : Ret env.P 55 [sls i64e l, .int .i64 most] (PI (made l most).l) := by
 obtain ⟨J, hJ⟩ : ∃ J, J = min 6 (l.length / 3) := ⟨_, rfl⟩
 have hone := qOne_ret
 have hmd : made l most = if (0 < l.length ∧ (nth l 0).tmod 7 = 6) then ZX.K (-3) * mades l most J else mades l most J := by rw [hJ]; rfl
 rw [hmd]
 have h0 : (1 : ZX).l = (mades l most 0).l := rfl
 rw [h0] at hone
 generalize hg0 : (mades l most 0).l = g0 at *
 refine ret_of_Wf (E := env) (fun _ => 0) [(0, sls i64e l), (1, .int .i64 most)] Tryz.func55 rfl (by kernel_rfl) (by kernel_rfl) (show 2 ≤ 100 by decide) (by simp) ?_
 refine W.sreg (fun K hK => ?_); simp (disch := omega) [gA, wA]; refine W.lv [0, 1] hK fun J j => ?_; clear hK K; simp; refine j _ ?_; clear j J
 refine W.sreg (fun K hK => ?_)
 simp (disch := omega) [gA, wA]
 refine callR hone ?_
 simp (disch := omega) [gA, wA]
 refine W.lv [0, 1, 5] hK fun J j => ?_; clear hK K; simp; refine j _ ?_; clear j J
 refine W.seq ?_
 refine W.sreg (fun K hK => ?_); simp (disch := omega) [gA, wA]; refine W.lv [0, 1, 5, 6] hK fun J j => ?_; clear hK K; simp; refine j _ ?_; clear j J
 subst hg0
 refine W.block ?_
 refine W.loopG (fun k σ => ∃ (i j : Nat) (rows : Pm.Rows) (clk : Nat), σ = ⟨fa [(0, sls i64e l), (1, .int .i64 most), (5, PI (mades l most j).l), (6, .int .i64 i)], rows, clk⟩ ∧ i = 3 * j ∧ j + k = J) J ?_ ?_
 ·exact ⟨_, .refl, 0, 0, _, _, rfl, rfl, by omega⟩
 rintro k _ ⟨i, j, rows, clk, rfl, hij, hjk⟩
 refine W.seq ?_
 by_cases hj : j < J
 ·have a1 : (i : Int) + 2 < (l.length : Int) := by omega
  have a2 : (i : Int) < 18 := by omega
  refine W.sreg (fun K hK => ?_)
  simp (disch := omega) [gA, wA, a1, a2]
  refine W.lv [0, 1, 5, 6, 21] hK fun J j => ?_; clear hK K; simp; refine j _ ?_; clear j J
  refine W.cond ⟨_, rfl, fun h => ?_, fun h => ?_⟩
  rotate_left
  ·cases h
  clear h
  obtain ⟨f1, f2, f3⟩ := mfac_ok l i
  obtain ⟨e1, e2⟩ := mexp_ok l i
  obtain ⟨p1, p2, p3⟩ := powS f3 f1 _ e1
  obtain ⟨m1, m2⟩ := mades_ok l most j
  have hJ6 : J ≤ 6 := by omega
  have hms : mades l most (j + 1) = mstep l most i (mades l most j) := by rw [hij]; rfl
  have w1 := Within_ret (nth l i) 9 (hb _ (nth_mem (by omega))) (by decide) (by decide)
  have w2 := Within_ret (nth l (i + 1)) 5 (hb _ (nth_mem (by omega))) (by decide) (by decide)
  have w3 := Within_ret (nth l (i + 2)) 3 (hb _ (nth_mem (by omega))) (by decide) (by decide)
  have bi := hb _ (nth_mem (show i < l.length by omega))
  have h9 := Int.emod_nonneg (nth l i) (show (9 : Int) ≠ 0 by decide)
  have h9' := Int.emod_lt_of_pos (nth l i) (show (0 : Int) < 9 by decide)
  have h5 := Int.emod_nonneg (nth l (i + 1)) (show (5 : Int) ≠ 0 by decide)
  have h5' := Int.emod_lt_of_pos (nth l (i + 1)) (show (0 : Int) < 5 by decide)
  have h3 := Int.emod_nonneg (nth l (i + 2)) (show (3 : Int) ≠ 0 by decide)
  have h3' := Int.emod_lt_of_pos (nth l (i + 2)) (show (0 : Int) < 3 by decide)
  have hpow := qPowZ_ret (a := ZX.of (mfac l i)) (k := mexp l i) (by omega) (fun r hr => by
   rcases Nat.eq_zero_or_pos r with h0 | h0
   ·subst h0
    have h1 : BZ 1 1 (1 : ZX) := (mades_ok l 0 0).2
    exact qMulI_ret _ _ _ _ _ _ h1 f1 (by decide)
   ·obtain ⟨q1, _, _⟩ := powS f3 f1 r h0
    exact qMulI_ret _ _ _ _ _ _ q1 f1 (by show _ < 137438953472; omega))
  have hmul := qMulI_ret (mades l most j).l (ZX.of (mfac l i) ^ mexp l i).l _ _ _ _ m2 p1 (by show _ < 137438953472; omega)
  have hpN : ZX.N (mades l most j) = (mades l most j).l.length := rfl
  have hfN : ZX.N (ZX.of (mfac l i)) = (mfac l i).length := by show (ZX.of (mfac l i)).l.length = _; rw [f2]
  have hcut : cutR (mfac l i) = mfac l i := f2
  have hlin := lin_ok (x := [-(nth l i % 9 - 4), nth l (i + 1) % 5 + 1]) (by simp) (by simp) (fun c hc => by
   simp only [List.mem_cons, List.not_mem_nil, or_false] at hc
   rcases hc with rfl | rfl <;> omega) (by simp; omega)
  have hc1 : cutR [-(nth l i % 9 - 4), nth l (i + 1) % 5 + 1] = [-(nth l i % 9 - 4), nth l (i + 1) % 5 + 1] := hlin.2.1
  have of1 := qOf_ret [-(nth l i % 9 - 4), nth l (i + 1) % 5 + 1] (by simp) (fun c hc => by
   simp only [List.mem_cons, List.not_mem_nil, or_false] at hc
   rcases hc with rfl | rfl <;> omega)
  rw [hc1] at of1
  have of2 : (nth l i).tmod 5 = 3 → Ret env.P 94 [.sl [[.int .i64 (-(nth l i % 9 - 4))], [.int .i64 (nth l (i + 2) % 3 - 1)], [.int .i64 (nth l (i + 1) % 5 + 1)]]] (PI (mfac l i)) := fun h => by
   have hx : mfac l i = [-(nth l i % 9 - 4), nth l (i + 2) % 3 - 1, nth l (i + 1) % 5 + 1] := by unfold mfac; rw [if_pos h]
   have := qOf_ret (mfac l i) (by rw [hx]; simp) (fun c hc => by
    rw [hx] at hc
    simp only [List.mem_cons, List.not_mem_nil, or_false] at hc
    rcases hc with rfl | rfl | rfl <;> omega)
   rw [hcut] at this
   rw [hx] at this ⊢
   exact this
  have hnot : ¬ (nth l i).tmod 5 = 3 → mfac l i = [-(nth l i % 9 - 4), nth l (i + 1) % 5 + 1] := fun h => by unfold mfac; rw [if_neg h]
  replace of1 : Ret env.P 94 [.sl [[.int .i64 (-(nth l i % 9 - 4))], [.int .i64 (nth l (i + 1) % 5 + 1)]]] (PI [-(nth l i % 9 - 4), nth l (i + 1) % 5 + 1]) := of1
  have hfl3 : (mfac l i).length = 2 ∨ (mfac l i).length = 3 := by unfold mfac; split <;> simp
  have hk3 : (mexp l i : Int) = 1 + nth l (i + 2) % 3 := by unfold mexp; omega
  have hP6 : mexp l i * (ZX.N (ZX.of (mfac l i)) - 1) ≤ 6 := by
   have : mexp l i * (ZX.N (ZX.of (mfac l i)) - 1) ≤ 3 * 2 := Nat.mul_le_mul e2 (by rw [hfN]; omega)
   omega
  have hP : (1 + nth l (i + 2) % 3) * (((mfac l i).length : Int) - 1) = ((mexp l i * (ZX.N (ZX.of (mfac l i)) - 1) : Nat) : Int) := by
   rw [hfN, Int.natCast_mul, hk3]
   congr 1
   omega
  have hpl : 0 < (mades l most j).l.length ∧ (mades l most j).l.length ≤ most + 1 := ⟨ZX.ne_zero.1 m1, m2.N⟩
  have hms' : mades l most (j + 1) = if most < (mades l most j).l.length - 1 + mexp l i * (ZX.N (ZX.of (mfac l i)) - 1) then mades l most j else mades l most j * ZX.of (mfac l i) ^ mexp l i := by rw [hms, mstep, hpN]
  rw [← hk3] at hP
  rw [f2] at hpow
  clear hms p1 p2 p3 m1 m2 f1 f2 f3 hlin hc1 hcut hpN hfN
  generalize mexp l i * (ZX.N (ZX.of (mfac l i)) - 1) = PP at *
  generalize hK : mexp l i = kk at *
  generalize hpm : pmul (mades l most j).l (ZX.of (mfac l i) ^ kk).l = pm at *
  have hpm2 : (mades l most j * ZX.of (mfac l i) ^ kk).l = pm := hpm
  generalize ZX.of (mfac l i) ^ kk = Fk at *
  generalize hF : mfac l i = F at *
  generalize hp0 : mades l most j = P0 at *
  have ei1 : ((i : Int) + 1).toNat = i + 1 := by omega
  have ei2 : ((i : Int) + 2).toNat = i + 2 := by omega
  refine W.skip ?_
  refine W.seq_blockJ (fun σ => ∃ (rows : Pm.Rows) (clk : Nat), σ = ⟨fa [(0, sls i64e l), (1, .int .i64 most), (5, PI (mades l most (j + 1)).l), (6, .int .i64 i)], rows, clk⟩) ?_ ?_
  ·refine W.sdrw (fun K hK => ?_)
   simp (disch := omega) [gA, wA, ei1, ei2]
   refine callR w1 ?_
   simp (disch := omega) [gA, wA, ei1, ei2]
   refine callR w2 ?_
   simp (disch := omega) [gA, wA, ei1, ei2]
   refine callR w3 ?_
   simp (disch := omega) [gA, wA]
   refine W.lv [0, 1, 5, 6, 7, 8, 9] hK fun J j => ?_; clear hK K; simp; refine j _ ?_; clear j J
   refine W.sreg (fun K hK => ?_)
   simp (disch := omega) [gA, wA]
   refine callR of1 ?_
   simp (disch := omega) [gA, wA]
   refine W.lv [0, 1, 5, 6, 7, 8, 9, 10] hK fun J j => ?_; clear hK K; simp; refine j _ ?_; clear j J
   refine W.seqJ (fun σ => ∃ (rows : Pm.Rows) (clk : Nat), σ = ⟨fa [(0, sls i64e l), (1, .int .i64 most), (5, PI P0.l), (6, .int .i64 i), (9, .int .i64 kk), (10, PI F)], rows, clk⟩) ?_ ?_
   ·refine W.sreg (fun K hK => ?_); simp (disch := omega) [gA, wA]; refine W.lv [0, 1, 5, 6, 7, 8, 9, 10, 54] hK fun J j => ?_; clear hK K; simp; refine j _ ?_; clear j J
    refine W.cond ⟨_, rfl, fun h => ?_, fun h => ?_⟩
    ·have h : (nth l i).tmod 5 = 3 := by simpa using h
     refine W.reg (fun K hK => ?_)
     simp (disch := omega) [gA, wA, ei2]
     refine callR w3 ?_
     simp (disch := omega) [gA, wA]
     refine callR (of2 h) ?_
     simp (disch := omega) [gA, wA]
     exact hK _ ⟨_, Gh_fa _ [0, 1, 5, 6, 9, 10], _, _, by rw [hk3]; rfl⟩
    ·have h : ¬ (nth l i).tmod 5 = 3 := by simpa using h
     rw [hnot h]
     refine W.skip ?_
     exact ⟨_, Gh_fa _ [0, 1, 5, 6, 9, 10], _, _, by rw [hk3]; rfl⟩
   rintro _ ⟨rows, clk, rfl⟩
   refine W.seq ?_
   refine W.sreg (fun K hK => ?_); simp (disch := omega) [gA, wA, hP]; refine W.lv [0, 1, 5, 6, 9, 10, 77] hK fun J j => ?_; clear hK K; simp; refine j _ ?_; clear j J
   refine W.cond ⟨_, rfl, fun h => ?_, fun h => ?_⟩
   ·have h : most < P0.l.length - 1 + PP := by simp at h; omega
    rw [if_pos h] at hms'
    rw [hms']
    refine W.exit ?_; simp only [pX, if_true, if_false, reduceIte, Nat.reduceEqDiff]
    exact ⟨_, Gh_fa _ [0, 1, 5, 6], _, _, rfl⟩
   ·have h : ¬ most < P0.l.length - 1 + PP := by simp at h; omega
    rw [if_neg h] at hms'
    rw [hms', hpm2]
    refine W.skip ?_
    refine W.reg (fun K hK => ?_)
    simp (disch := omega) [gA, wA]
    refine callR hpow ?_
    simp (disch := omega) [gA, wA]
    refine callR hmul ?_
    simp (disch := omega) [gA, wA]
    exact hK _ ⟨_, Gh_fa _ [0, 1, 5, 6], _, _, rfl⟩
  rintro _ ⟨rows, clk, rfl⟩
  refine W.reg (fun K hK => ?_); simp (disch := omega) [gA, wA]
  refine hK _ ⟨k - 1, _, Gh_fa _ [0, 1, 5, 6], by omega, i + 3, j + 1, _, _, rfl, by omega, by omega⟩
 ·have hjJ : j = J := by omega
  subst hjJ
  refine W.sregJ (fun σ => ∃ (rows : Pm.Rows) (clk : Nat), σ = ⟨fa [(0, sls i64e l), (5, PI (mades l most j).l), (21, .bool false)], rows, clk⟩) (fun K hK => ?_) ?_
  ·by_cases a1 : (i : Int) + 2 < (l.length : Int)
   ·have a2 : ¬ (i : Int) < 18 := by omega
    simp (disch := omega) [gA, wA, a1, a2]
    exact hK _ _ (Gh_fa _ [0, 5, 21]) ⟨_, _, rfl⟩
   ·simp (disch := omega) [gA, wA, a1]
    exact hK _ _ (Gh_fa _ [0, 5, 21]) ⟨_, _, rfl⟩
  rintro _ ⟨rows, clk, rfl⟩
  refine W.cond ⟨_, rfl, fun h => ?_, fun h => ?_⟩
  ·cases h
  clear h
  have of3 := qOf_ret [-3] (by decide) (by decide)
  replace of3 : Ret env.P 94 [.sl [[.int .i64 (-3)]]] (PI [-3]) := of3
  obtain ⟨m1, m2⟩ := mades_ok l most j
  have hsc := qScaleI_ret (mades l most j).l (-3) (m2.yy (by show _ ≤ 137438953472; omega) (by omega)) (by show sz 2 (-3) ≤ 137438953472; exact Nat.le_trans (sz_le (k := 2) (by decide) (by decide)) (by decide))
  have hsl : pscale (mades l most j).l (-3) = (ZX.K (-3) * mades l most j).l := Cn.ext (Cn.pscale _ _) (ZX.K (-3) * mades l most j).c fun t => by rw [V_pscale, ZX.v_mul, ZX.v_K, Int.mul_comm]
  rw [hsl] at hsc
  refine W.exit ?_; simp only [pX, if_true, if_false, reduceIte, Nat.reduceEqDiff]
  refine W.seqJ (fun σ => ∃ (rows : Pm.Rows) (clk : Nat), σ = ⟨fa [(5, PI (if (0 < l.length ∧ (nth l 0).tmod 7 = 6) then ZX.K (-3) * mades l most j else mades l most j).l)], rows, clk⟩) ?_ ?_
  ·by_cases hl0 : 0 < l.length
   ·by_cases h7 : (nth l 0).tmod 7 = 6
    ·rw [if_pos ⟨hl0, h7⟩]
     have b7 : ((nth l 0).tmod 7 == 6) = true := by simpa using h7
     refine W.sreg (fun K hK => ?_)
     simp (disch := omega) [gA, wA, hl0, b7, h7]
     refine W.lv [5, 92] hK fun J j => ?_; clear hK K; simp; refine j _ ?_; clear j J
     refine W.cond ⟨_, rfl, fun h => ?_, fun h => ?_⟩
     ·refine W.reg (fun K hK => ?_)
      simp (disch := omega) [gA, wA]
      refine callR of3 ?_
      simp (disch := omega) [gA, wA]
      refine callR hsc ?_
      simp (disch := omega) [gA, wA]
      exact hK _ ⟨_, Gh_fa _ [5], _, _, rfl⟩
     ·cases h
    ·rw [if_neg (fun h => h7 h.2)]
     have b7 : ((nth l 0).tmod 7 == 6) = false := by simpa using h7
     refine W.sreg (fun K hK => ?_)
     simp (disch := omega) [gA, wA, hl0, b7, h7]
     refine W.lv [5, 92] hK fun J j => ?_; clear hK K; simp; refine j _ ?_; clear j J
     refine W.cond ⟨_, rfl, fun h => ?_, fun h => ?_⟩
     ·cases h
     ·refine W.skip ?_
      exact ⟨_, Gh_fa _ [5], _, _, rfl⟩
   ·rw [if_neg (fun h => hl0 h.1)]
    have hl1 : l.length = 0 := by omega
    refine W.sreg (fun K hK => ?_)
    simp (disch := omega) [gA, wA, hl1]
    refine W.lv [5, 92] hK fun J j => ?_; clear hK K; simp; refine j _ ?_; clear j J
    refine W.cond ⟨_, rfl, fun h => ?_, fun h => ?_⟩
    ·cases h
    ·refine W.skip ?_
     exact ⟨_, Gh_fa _ [5], _, _, rfl⟩
  rintro _ ⟨rows, clk, rfl⟩
  refine W.sreg (fun K hK => ?_); simp (disch := omega) [gA, wA]; refine W.lv [4] hK fun J j => ?_; clear hK K; simp; refine j _ ?_; clear j J
  refine W.ret ?_
  simp [go]
end Go.Proofs.YtdiladmkbpnhoaaGreat
