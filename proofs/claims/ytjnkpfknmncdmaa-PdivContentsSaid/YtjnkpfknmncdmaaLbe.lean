import Derived.Test.YtjnkpfknmncdmaaLbd
set_option linter.unusedSimpArgs false
set_option linter.unusedVariables false
namespace Go.Proofs.Ytjnkpfknmncdmaa
open Go Pm

/-- How far a limb is shifted so that its highest digit is set. -/
theorem shift_of {t : Int} (h0 : 0 < t) (h1 : t < 4294967296) : ∃ s : Nat, s ≤ 31 ∧ (32 : Int) - nb t.toNat = s ∧ 2147483648 ≤ t * 2 ^ s ∧ (t + 1) * 2 ^ s ≤ 4294967296 := by
  have h2 : nb t.toNat ≤ 32 := nb_lt.2 (by omega)
  have h3 : 1 ≤ nb t.toNat := by
    rcases Nat.eq_zero_or_pos (nb t.toNat) with h | h
    · have := nb_lt.1 (Nat.le_of_eq h); omega
    · exact h
  obtain ⟨k, hk⟩ : ∃ k, nb t.toNat = k + 1 := ⟨nb t.toNat - 1, by omega⟩
  have h4 : t.toNat < 2 ^ (k + 1) := nb_lt.1 (Nat.le_of_eq hk)
  have h5 : 2 ^ k ≤ t.toNat := by
    rcases Nat.lt_or_ge t.toNat (2 ^ k) with h | h
    · have := nb_lt.2 h; omega
    · exact h
  have e1 : (2 : Int) ^ (k + 1) * 2 ^ (31 - k) = 4294967296 := by rw [← Int.pow_add, show k + 1 + (31 - k) = 32 by omega]; rfl
  have e2 : (2 : Int) ^ k * 2 ^ (31 - k) = 2147483648 := by rw [← Int.pow_add, show k + (31 - k) = 31 by omega]; rfl
  have hp : (0 : Int) < 2 ^ (31 - k) := Int.pow_pos (by decide)
  have q1 : ((2 ^ k : Nat) : Int) = (2 : Int) ^ k := Int.natCast_pow 2 k
  have q2 : ((2 ^ (k + 1) : Nat) : Int) = (2 : Int) ^ (k + 1) := Int.natCast_pow 2 (k + 1)
  refine ⟨31 - k, by omega, by omega, ?_, ?_⟩
  · have := Int.mul_le_mul_of_nonneg_right (show (2 : Int) ^ k ≤ t by omega) (Int.le_of_lt hp)
    omega
  · have := Int.mul_le_mul_of_nonneg_right (show t + 1 ≤ (2 : Int) ^ (k + 1) by omega) (Int.le_of_lt hp)
    omega

theorem canon_top {y : List Int} (hc : cutR y = y) (h : y ≠ []) : nth y (y.length - 1) ≠ 0 := by
  intro h0
  have hl : 0 < y.length := List.length_pos_iff.2 h
  have e : y = y.take (y.length - 1) ++ [0] := by
    have := take_succ_nth (l := y) (i := y.length - 1) (by omega)
    rw [h0, show y.length - 1 + 1 = y.length by omega, List.take_length] at this
    exact this
  have h1 := cutR_zero (y.take (y.length - 1))
  rw [← e, hc] at h1
  have h2 := cutR_len (y.take (y.length - 1))
  rw [← h1, List.length_take] at h2
  omega
theorem N_zero : N 0 = us [] := rfl

/-- Division by a row whose highest limb has its highest digit set: one limb of the quotient. -/
theorem div_step {m i : Nat} {X D : List Int} {Y g : Int} (lX : Lim 4294967296 X) (lD : Lim 4294967296 D) (hYb : Y < 4294967296 ^ (m + 2)) (hY0 : 0 < Y) (hil : i + m + 3 ≤ X.length) (hDl : D.length = (X.drop i).length) (hDd : D.drop (m + 3) = (X.drop i).drop (m + 3))
    (hg : g = V 4294967296 ((X.drop i).take (m + 3)) / Y) (hDv : V 4294967296 (D.take (m + 3)) = V 4294967296 ((X.drop i).take (m + 3)) % Y) (hlt : V 4294967296 (X.drop (i + 1)) < Y) :
    V 4294967296 ((X.take i ++ D).drop i) < Y ∧ V 4294967296 (X.take i ++ D) = V 4294967296 X - 4294967296 ^ i * (g * Y) := by
  have hl : (X.take i).length = i := by simp; omega
  have e1 : (X.take i ++ D).drop i = D := by rw [List.drop_append, hl, List.drop_of_length_le (by omega)]; simp
  have hD3 := V_split (b := 4294967296) D (m + 3) (by rw [hDl]; simp; omega)
  have hX3 := V_split (b := 4294967296) (X.drop i) (m + 3) (by simp; omega)
  have hXi := V_split (b := 4294967296) X i (by omega)
  have hz : V 4294967296 ((X.drop i).drop (m + 3)) = 0 := by
    have h1 := V_split (b := 4294967296) (X.drop (i + 1)) (m + 2) (by simp; omega)
    have h2 : (X.drop (i + 1)).drop (m + 2) = (X.drop i).drop (m + 3) := by
      rw [List.drop_drop, List.drop_drop]; congr 1; omega
    have h3 := V_nonneg (b := 4294967296) (by decide) ((lX.drop (i + 1)).take (m + 2))
    have h4 := V_nonneg (b := 4294967296) (by decide) ((lX.drop i).drop (m + 3))
    rw [h2] at h1
    rcases Int.lt_or_le 0 (V 4294967296 ((X.drop i).drop (m + 3))) with h5 | h5
    · exfalso
      have := Int.mul_le_mul_of_nonneg_left (show 1 ≤ V 4294967296 ((X.drop i).drop (m + 3)) by omega) (show 0 ≤ (4294967296 : Int) ^ (m + 2) by omega)
      omega
    · omega
  rw [hDd, hz, Int.mul_zero, Int.add_zero] at hD3
  rw [hz, Int.mul_zero, Int.add_zero] at hX3
  have hm := Int.emod_lt_of_pos (V 4294967296 ((X.drop i).take (m + 3))) hY0
  have hde := Int.mul_ediv_add_emod (V 4294967296 ((X.drop i).take (m + 3))) Y
  rw [← hg, ← hDv, ← hX3, ← hD3] at hde
  refine ⟨by rw [e1, hD3, hDv]; exact hm, ?_⟩
  rw [V_append, hl, hXi, ← hde]
  grind

theorem DivMod_ret0 (a b : List Int) (ha : LOK a) (hb : LOK b) (h0 : V 4294967296 b = 0) : Ret env.P 119 [us a, us b] (.tup [us [], us [], .int .i64 2]) := by
  have hlb := hb.len
  have hla := ha.len
  have hcb := cutR_len b
  have hy : cutR b = [] := by rw [cutR_dig hLL hb.lim]; show dig LL (V 4294967296 b).toNat = []; rw [h0]; rfl
  refine ret_of_Wf (E := env) (fun _ => 0) [(0, us a), (1, us b)] Try.func119 rfl (by kernel_rfl) (by kernel_rfl) (show 2 ≤ 98 by decide) (by simp) ?_
  refine W.sreg (fun K hK => ?_); simp (disch := omega) [gA, wrap_i64, wrap_u64, wrap_u32, Int.tdiv_eq_ediv_of_nonneg, Int.tmod_eq_emod_of_nonneg]; refine hK _ (W.liveK [0, 1] fun K2 hK2 => ?_); clear hK K; simp; refine hK2 _ ?_; clear hK2 K2
  refine W.sreg (fun K hK => ?_)
  simp (disch := omega) [gA, wrap_i64, wrap_u64, wrap_u32, Int.tdiv_eq_ediv_of_nonneg, Int.tmod_eq_emod_of_nonneg]
  refine callR (cut_ret a (by omega)) ?_
  simp (disch := omega) [gA, wrap_i64, wrap_u64, wrap_u32, Int.tdiv_eq_ediv_of_nonneg, Int.tmod_eq_emod_of_nonneg]
  refine callR (cut_ret b (by omega)) ?_
  simp (disch := omega) [gA, wrap_i64, wrap_u64, wrap_u32, Int.tdiv_eq_ediv_of_nonneg, Int.tmod_eq_emod_of_nonneg]
  refine hK _ (W.liveK [0, 1] fun K2 hK2 => ?_); clear hK K; simp; refine hK2 _ ?_; clear hK2 K2
  rw [hy]
  refine W.seq ?_
  refine W.block ?_   -- block 0
  refine W.sreg (fun K hK => ?_); simp (disch := omega) [gA, wrap_i64, wrap_u64, wrap_u32, Int.tdiv_eq_ediv_of_nonneg, Int.tmod_eq_emod_of_nonneg]; refine hK _ (W.liveK [0, 1, 18] fun K2 hK2 => ?_); clear hK K; simp; refine hK2 _ ?_; clear hK2 K2
  refine W.cond ⟨_, rfl, fun h => ?_, fun h => ?_⟩   -- t18
  · refine W.sreg (fun K hK => ?_); simp (disch := omega) [gA, wrap_i64, wrap_u64, wrap_u32, Int.tdiv_eq_ediv_of_nonneg, Int.tmod_eq_emod_of_nonneg]; refine hK _ (W.liveK [4, 5, 6] fun K2 hK2 => ?_); clear hK K; simp; refine hK2 _ ?_; clear hK2 K2
    refine W.ret ?_
    simp [go]
    rfl
  · cases h

theorem DivMod_ret (a b : List Int) (ha : LOK a) (hb : LOK b) (h0 : V 4294967296 b ≠ 0) (hla : a.length < 1099511627774) (hlb : b.length < 1099511627774) :
    Ret env.P 119 [us a, us b] (.tup [N (V 4294967296 a / V 4294967296 b), N (V 4294967296 a % V 4294967296 b), .int .i64 0]) := by
  have hca := cutR_len a
  have hcb := cutR_len b
  have hVa := V_cutR (b := 4294967296) a
  have hVb := V_cutR (b := 4294967296) b
  have lx := Lim_cutR ha.lim
  have ly := Lim_cutR hb.lim
  have cx := cutR_cutR a
  have cy := cutR_cutR b
  rw [← hVa, ← hVb]
  rw [← hVb] at h0
  refine ret_of_Wf (E := env) (fun _ => 0) [(0, us a), (1, us b)] Try.func119 rfl (by kernel_rfl) (by kernel_rfl) (show 2 ≤ 98 by decide) (by simp) ?_
  refine W.sreg (fun K hK => ?_); simp (disch := omega) [gA, wrap_i64, wrap_u64, wrap_u32, Int.tdiv_eq_ediv_of_nonneg, Int.tmod_eq_emod_of_nonneg]; refine hK _ (W.liveK [0, 1] fun K2 hK2 => ?_); clear hK K; simp; refine hK2 _ ?_; clear hK2 K2
  refine W.sreg (fun K hK => ?_)
  simp (disch := omega) [gA, wrap_i64, wrap_u64, wrap_u32, Int.tdiv_eq_ediv_of_nonneg, Int.tmod_eq_emod_of_nonneg]
  refine callR (cut_ret a (by omega)) ?_
  simp (disch := omega) [gA, wrap_i64, wrap_u64, wrap_u32, Int.tdiv_eq_ediv_of_nonneg, Int.tmod_eq_emod_of_nonneg]
  refine callR (cut_ret b (by omega)) ?_
  simp (disch := omega) [gA, wrap_i64, wrap_u64, wrap_u32, Int.tdiv_eq_ediv_of_nonneg, Int.tmod_eq_emod_of_nonneg]
  refine hK _ (W.liveK [0, 1] fun K2 hK2 => ?_); clear hK K; simp; refine hK2 _ ?_; clear hK2 K2
  have hxl : (cutR a).length < 1099511627774 := by omega
  have hyl : (cutR b).length < 1099511627774 := by omega
  clear hVa hVb hca hcb
  generalize cutR a = x at *
  generalize cutR b = y at *
  have hyn : y ≠ [] := fun h => h0 (by rw [h]; rfl)
  have hyp : 0 < y.length := List.length_pos_iff.2 hyn
  have hY0 : 0 < V 4294967296 y := by have := V_nonneg (b := 4294967296) (by decide) ly; omega
  have hX0 := V_nonneg (b := 4294967296) (by decide) lx
  refine W.seq ?_
  refine W.block ?_   -- block 0
  refine W.sreg (fun K hK => ?_); simp (disch := omega) [gA, wrap_i64, wrap_u64, wrap_u32, Int.tdiv_eq_ediv_of_nonneg, Int.tmod_eq_emod_of_nonneg]; refine hK _ (W.liveK [0, 1, 18] fun K2 hK2 => ?_); clear hK K; simp; refine hK2 _ ?_; clear hK2 K2
  refine W.cond ⟨_, rfl, fun h => ?_, fun h => ?_⟩   -- t18
  · exfalso; simp at h; exact hyn h
  clear h
  refine W.sreg (fun K hK => ?_); simp (disch := omega) [gA, wrap_i64, wrap_u64, wrap_u32, Int.tdiv_eq_ediv_of_nonneg, Int.tmod_eq_emod_of_nonneg]; refine hK _ (W.liveK [0, 1, 22] fun K2 hK2 => ?_); clear hK K; simp; refine hK2 _ ?_; clear hK2 K2
  refine W.cond ⟨_, rfl, fun h => ?_, fun h => ?_⟩   -- t22
  · have h : x.length < y.length := by simp at h; omega
    have hxy := V_lt_of_len (b := 4294967296) (by decide) lx ly cy h
    rw [Int.ediv_eq_zero_of_lt hX0 hxy, Int.emod_eq_of_lt hX0 hxy]
    refine W.sreg (fun K hK => ?_)
    simp (disch := omega) [gA, wrap_i64, wrap_u64, wrap_u32, Int.tdiv_eq_ediv_of_nonneg, Int.tmod_eq_emod_of_nonneg]
    refine callR (Norm_ret x (by omega) lx) ?_
    simp (disch := omega) [gA, wrap_i64, wrap_u64, wrap_u32, Int.tdiv_eq_ediv_of_nonneg, Int.tmod_eq_emod_of_nonneg]
    refine hK _ (W.liveK [4, 5, 6] fun K2 hK2 => ?_); clear hK K; simp; refine hK2 _ ?_; clear hK2 K2
    refine W.ret ?_
    simp [go]
    rfl
  have hxy : y.length ≤ x.length := by simp at h; omega
  clear h
  refine W.sreg (fun K hK => ?_); simp (disch := omega) [gA, wrap_i64, wrap_u64, wrap_u32, Int.tdiv_eq_ediv_of_nonneg, Int.tmod_eq_emod_of_nonneg]; refine hK _ (W.liveK [0, 1, 30] fun K2 hK2 => ?_); clear hK K; simp; refine hK2 _ ?_; clear hK2 K2
  refine W.cond ⟨_, rfl, fun h => ?_, fun h => ?_⟩   -- t30
  · have h : y.length = 1 := by simp at h; omega
    obtain ⟨w, rfl⟩ : ∃ w, y = [w] := match y, h with | [w], _ => ⟨w, rfl⟩
    have hw := (Lim.cons.1 ly).1
    have hV1 : V 4294967296 [w] = w := V_one
    rw [hV1] at h0 hY0 ⊢
    have hm0 := Int.emod_nonneg (V 4294967296 x) h0
    have hm1 := Int.emod_lt_of_pos (V 4294967296 x) hY0
    have hone := one_ret x w (by omega) lx hY0 hw.2
    have lr : Lim 4294967296 [V 4294967296 x % w] := Lim.cons.2 ⟨⟨hm0, by omega⟩, Lim.nil⟩
    have hcut := cut_ret [V 4294967296 x % w] (by simp)
    rw [N_cut lr, V_one] at hcut
    have hnw : nth [w] 0 = w := rfl
    generalize V 4294967296 x / w = qq at *
    generalize V 4294967296 x % w = rr at *
    refine W.sreg (fun K hK => ?_)
    simp (disch := omega) [gA, wrap_i64, wrap_u64, wrap_u32, Int.tdiv_eq_ediv_of_nonneg, Int.tmod_eq_emod_of_nonneg, hnw]
    refine callR hone ?_
    simp (disch := omega) [gA, wrap_i64, wrap_u64, wrap_u32, Int.tdiv_eq_ediv_of_nonneg, Int.tmod_eq_emod_of_nonneg]
    refine hK _ (W.liveK [7, 8] fun K2 hK2 => ?_); clear hK K; simp; refine hK2 _ ?_; clear hK2 K2
    refine W.sreg (fun K hK => ?_)
    simp (disch := omega) [gA, wrap_i64, wrap_u64, wrap_u32, Int.tdiv_eq_ediv_of_nonneg, Int.tmod_eq_emod_of_nonneg]
    refine callR hcut ?_
    simp (disch := omega) [gA, wrap_i64, wrap_u64, wrap_u32, Int.tdiv_eq_ediv_of_nonneg, Int.tmod_eq_emod_of_nonneg]
    refine hK _ (W.liveK [4, 5, 6] fun K2 hK2 => ?_); clear hK K; simp; refine hK2 _ ?_; clear hK2 K2
    refine W.ret ?_
    simp [go]
  have hy2 : 2 ≤ y.length := by simp at h; omega
  clear h
  obtain ⟨m, hm⟩ : ∃ m, y.length = m + 2 := ⟨y.length - 2, by omega⟩
  have htn := canon_top cy hyn
  rw [show y.length - 1 = m + 1 by omega] at htn
  have htl := ly.nth (i := m + 1) (by omega)
  obtain ⟨s, hs31, hsn, hs1, hs2⟩ := shift_of (t := nth y (m + 1)) (by omega) htl.2
  have hLZ := LZ_ret (nth y (m + 1)) htl.1 htl.2
  rw [hsn] at hLZ
  have hp : (0 : Int) < 2 ^ s := Int.pow_pos (by decide)
  have hs31' : (2 : Int) ^ s ≤ 2147483648 := by
    have := Int.ofNat_le.2 (Nat.pow_le_pow_right (show 0 < 2 by decide) hs31)
    simpa using this
  have hbm : (0 : Int) < 4294967296 ^ (m + 1) := Int.pow_pos (by decide)
  have hxlt := V_lt (b := 4294967296) (by decide) lx
  -- the row below
  have hVy := V_split (b := 4294967296) y (m + 1) (by omega)
  have hy1 : V 4294967296 (y.drop (m + 1)) = nth y (m + 1) := by rw [drop_nth (by omega), List.drop_of_length_le (by omega), V_one]
  rw [hy1] at hVy
  have hy2' := V_nonneg (b := 4294967296) (by decide) (ly.take (m + 1))
  have hy3 := V_lt (b := 4294967296) (by decide) (ly.take (m + 1))
  rw [List.length_take, Nat.min_eq_left (by omega)] at hy3
  have hyU : V 4294967296 y * 2 ^ s < 4294967296 ^ (m + 2) := by
    have h1 : V 4294967296 y < (nth y (m + 1) + 1) * 4294967296 ^ (m + 1) := by rw [hVy]; grind
    have h2 := Int.mul_lt_mul_of_pos_right h1 hp
    have h3 := Int.mul_le_mul_of_nonneg_right hs2 (Int.le_of_lt hbm)
    have e : (nth y (m + 1) + 1) * 4294967296 ^ (m + 1) * 2 ^ s = (nth y (m + 1) + 1) * 2 ^ s * 4294967296 ^ (m + 1) := by grind
    rw [show m + 2 = (m + 1) + 1 from rfl, Int.pow_succ]
    omega
  have hyL : 2147483648 * 4294967296 ^ (m + 1) ≤ V 4294967296 y * 2 ^ s := by
    have h1 : nth y (m + 1) * 4294967296 ^ (m + 1) ≤ V 4294967296 y := by rw [hVy, Int.mul_comm]; omega
    have h2 := Int.mul_le_mul_of_nonneg_right h1 (Int.le_of_lt hp)
    have h3 := Int.mul_le_mul_of_nonneg_right hs1 (Int.le_of_lt hbm)
    have e : nth y (m + 1) * 4294967296 ^ (m + 1) * 2 ^ s = nth y (m + 1) * 2 ^ s * 4294967296 ^ (m + 1) := by grind
    omega
  have hxU : V 4294967296 x * 2 ^ s < 4294967296 ^ (x.length + 1) := by
    rw [Int.pow_succ]
    exact Int.lt_of_lt_of_le (Int.mul_lt_mul_of_pos_right hxlt hp) (Int.mul_le_mul_of_nonneg_left (by omega) (Int.le_of_lt (Int.pow_pos (by decide))))
  obtain ⟨x', hwx, hx'l, lx', hx'V⟩ := wide_own x s (x.length + 1) hs31 (by omega) lx (by omega) (by omega) hxU
  obtain ⟨y', hwy, hy'l, ly', hy'V⟩ := wide_own y s (m + 2) hs31 (by omega) ly (by omega) (by omega) hyU
  have hy't : 2147483648 ≤ nth y' (m + 1) := by
    have h1 := V_split (b := 4294967296) y' (m + 1) (by omega)
    have h2 : V 4294967296 (y'.drop (m + 1)) = nth y' (m + 1) := by rw [drop_nth (by omega), List.drop_of_length_le (by omega), V_one]
    have h3 := V_lt (b := 4294967296) (by decide) (ly'.take (m + 1))
    rw [List.length_take, Nat.min_eq_left (by omega)] at h3
    rw [h2, hy'V] at h1
    rcases Int.lt_or_le (nth y' (m + 1)) 2147483648 with h4 | h4
    · exfalso
      have := Int.mul_le_mul_of_nonneg_left (show nth y' (m + 1) + 1 ≤ 2147483648 by omega) (Int.le_of_lt hbm)
      rw [Int.mul_add, Int.mul_comm _ 2147483648] at this
      omega
    · exact h4
  have hY'0 : 0 < V 4294967296 y' := by rw [hy'V]; exact Int.mul_pos hY0 hp
  have hY'b : V 4294967296 y' < 4294967296 ^ (m + 2) := by rw [hy'V]; exact hyU
  have hxm : m + 2 ≤ x.length := by omega
  have hqx : V 4294967296 x / V 4294967296 y = V 4294967296 x' / V 4294967296 y' := by rw [hx'V, hy'V, Int.mul_ediv_mul_of_pos_left _ _ hp]
  have hrx : V 4294967296 x % V 4294967296 y = V 4294967296 x' % V 4294967296 y' / 2 ^ s := by
    rw [hx'V, hy'V]
    have e1 := Int.emod_def (V 4294967296 x * 2 ^ s) (V 4294967296 y * 2 ^ s)
    rw [Int.mul_ediv_mul_of_pos_left _ _ hp] at e1
    have e2 := Int.emod_def (V 4294967296 x) (V 4294967296 y)
    rw [e1, e2]
    have e3 : V 4294967296 x * 2 ^ s - V 4294967296 y * 2 ^ s * (V 4294967296 x / V 4294967296 y) = (V 4294967296 x - V 4294967296 y * (V 4294967296 x / V 4294967296 y)) * 2 ^ s := by grind
    rw [e3, Int.mul_ediv_cancel _ (by omega)]
  have hX'U : V 4294967296 (x'.drop (x.length - m - 1)) < V 4294967296 y' := by
    have h1 := V_split (b := 4294967296) x' (x.length - m - 1) (by omega)
    have h2 := V_nonneg (b := 4294967296) (by decide) (lx'.take (x.length - m - 1))
    rw [hx'V] at h1
    have h3 : V 4294967296 x * 2 ^ s < 4294967296 ^ (x.length - m - 1) * (4294967296 ^ (m + 1) * 2 ^ s) := by
      rw [← Int.mul_assoc, ← Int.pow_add, show x.length - m - 1 + (m + 1) = x.length by omega]
      exact Int.mul_lt_mul_of_pos_right hxlt hp
    have h4 : V 4294967296 (x'.drop (x.length - m - 1)) < 4294967296 ^ (m + 1) * 2 ^ s := Int.lt_of_mul_lt_mul_left (a := 4294967296 ^ (x.length - m - 1)) (by omega) (Int.le_of_lt (Int.pow_pos (by decide)))
    have h5 := Int.mul_le_mul_of_nonneg_left hs31' (Int.le_of_lt hbm)
    rw [hy'V]
    rw [Int.mul_comm _ 2147483648] at h5
    omega
  rw [hqx, hrx]
  refine W.skip ?_
  have a1 : ((m : Int) + 2 - 1) = ((m + 1 : Nat) : Int) := by omega
  refine W.sreg (fun K hK => ?_)
  simp (disch := omega) [gA, wrap_i64, wrap_u64, wrap_u32, Int.tdiv_eq_ediv_of_nonneg, Int.tmod_eq_emod_of_nonneg, hm, a1]
  refine callR hLZ ?_
  simp (disch := omega) [gA, wrap_i64, wrap_u64, wrap_u32, Int.tdiv_eq_ediv_of_nonneg, Int.tmod_eq_emod_of_nonneg]
  refine hK _ (W.liveK [0, 1, 9] fun K2 hK2 => ?_); clear hK K; simp; refine hK2 _ ?_; clear hK2 K2
  replace hwx : RetO env.P 126 [us x, .int .i64 s, .int .i64 ((x.length : Int) + 1)] 115 1 (emap u32 x') := hwx
  replace hwy : RetO env.P 126 [us y, .int .i64 s, .int .i64 ((m : Int) + 2)] 115 1 (emap u32 y') := hwy
  refine W.sreg (fun K hK => ?_)
  simp (disch := omega) [gA, wrap_i64, wrap_u64, wrap_u32, Int.tdiv_eq_ediv_of_nonneg, Int.tmod_eq_emod_of_nonneg, hm]
  refine callO hwx 58 (by simp) (by simp) (by simp) ?_
  simp (disch := omega) [gA, wrap_i64, wrap_u64, wrap_u32, Int.tdiv_eq_ediv_of_nonneg, Int.tmod_eq_emod_of_nonneg, hm]
  refine callO hwy 63 (by simp) (by simp) (by simp) ?_
  simp (disch := omega) [gA, wrap_i64, wrap_u64, wrap_u32, Int.tdiv_eq_ediv_of_nonneg, Int.tmod_eq_emod_of_nonneg]
  refine hK _ (W.liveK [0, 9, 10, 11] fun K2 hK2 => ?_); clear hK K; simp; refine hK2 _ ?_; clear hK2 K2
  refine W.freeze 63 (by simp) (fun K hK => ?_)
  simp
  refine hK _ ?_; clear hK K
  refine W.sreg (fun K hK => ?_); simp (disch := omega) [gA, wrap_i64, wrap_u64, wrap_u32, Int.tdiv_eq_ediv_of_nonneg, Int.tmod_eq_emod_of_nonneg, hy'l]; refine hK _ (W.liveK [0, 9, 10, 11, 12] fun K2 hK2 => ?_); clear hK K; simp; refine hK2 _ ?_; clear hK2 K2
  obtain ⟨ql, hql⟩ : ∃ ql, x.length = ql + m + 1 := ⟨x.length - m - 1, by omega⟩
  rw [show x.length - m - 1 = ql by omega] at hX'U
  have hx'l2 : x'.length = ql + m + 2 := by omega
  have aq : (x.length : Int) - ((m : Int) + 2) + 1 = (ql : Int) := by omega
  refine W.sreg (fun K hK => ?_)
  simp (disch := omega) [gA, wrap_i64, wrap_u64, wrap_u32, Int.tdiv_eq_ediv_of_nonneg, Int.tmod_eq_emod_of_nonneg, aq]
  refine hK _ (W.liveK [4, 9, 10, 11, 12] fun K2 hK2 => ?_); clear hK K; simp; refine hK2 _ ?_; clear hK2 K2
  clear hwx hwy hVy hy1 hy2' hy3 hyU hyL hxU hqx hrx htn htl hs1 hs2 hsn hLZ hxlt hY0 hX0
  refine W.seq ?_
  refine W.sreg (fun K hK => ?_); simp (disch := omega) [gA, wrap_i64, wrap_u64, wrap_u32, Int.tdiv_eq_ediv_of_nonneg, Int.tmod_eq_emod_of_nonneg]; refine hK _ (W.liveK [4, 9, 10, 11, 12, 13] fun K2 hK2 => ?_); clear hK K; simp; refine hK2 _ ?_; clear hK2 K2
  refine W.block ?_   -- block 1
  refine W.loopG (fun q σ => ∃ (v4 : Nat) (X Q : List Int) (rows : Pm.Rows) (clk : Nat), σ = ⟨fa [(4, .own 71 v4 0 ql), (9, .int .i64 s), (10, .own 58 0 0 (ql + m + 2)), (11, us y'), (12, .int .i64 ((m : Int) + 2)), (13, .int .i64 ((q : Int) - 1))], rows, clk⟩ ∧
    rows 58 = some ⟨0, 115, 1, emap u32 X⟩ ∧ rows 71 = some ⟨v4, 115, 1, emap u32 Q⟩ ∧ q ≤ ql ∧ X.length = ql + m + 2 ∧ Q.length = ql ∧ Lim 4294967296 X ∧ Lim 4294967296 Q ∧
    V 4294967296 X + 4294967296 ^ q * V 4294967296 (Q.drop q) * V 4294967296 y' = V 4294967296 x' ∧ V 4294967296 (X.drop q) < V 4294967296 y') ql ?_ ?_
  · exact ⟨_, Gh.fr [(4, .own 71 _ 0 ql), (9, .int .i64 s), (10, .own 58 0 0 (ql + m + 2)), (11, us y'), (12, .int .i64 ((m : Int) + 2)), (13, .int .i64 ((ql : Int) - 1))] (by simp [hx'l2]; exact rfl), _, x', List.replicate ql 0, _, _, rfl, by simp, by simp, by omega, hx'l2, by simp, lx', Lim.rep (by decide) _, by simp [V], hX'U⟩
  rintro q _ ⟨v4, X, Q, rows, clk, rfl, hr58, hr71, hq, hXl, hQl, lX, lQ, hVX, hXU⟩
  refine W.seq ?_
  refine W.sreg (fun K hK => ?_); simp (disch := omega) [gA, wrap_i64, wrap_u64, wrap_u32, Int.tdiv_eq_ediv_of_nonneg, Int.tmod_eq_emod_of_nonneg]; refine hK _ (W.liveK [4, 9, 10, 11, 12, 13, 76] fun K2 hK2 => ?_); clear hK K; simp; refine hK2 _ ?_; clear hK2 K2
  refine W.cond ⟨_, rfl, fun h => ?_, fun h => ?_⟩   -- t76
  · have hq0 : 0 < q := by simp at h; omega
    obtain ⟨i, rfl⟩ : ∃ i, q = i + 1 := ⟨q - 1, by omega⟩
    clear h
    have ei : ((i + 1 : Nat) : Int) - 1 = i := by omega
    rw [ei]
    have hdlt : V 4294967296 ((X.drop i).take (m + 3)) < 4294967296 * V 4294967296 y' := by
      have h1 := V_split (b := 4294967296) (X.drop i) (m + 3) (by simp; omega)
      have h2 := V_nonneg (b := 4294967296) (by decide) ((lX.drop i).drop (m + 3))
      have h3 := Int.mul_nonneg (show (0 : Int) ≤ 4294967296 ^ (m + 3) from Int.le_of_lt (Int.pow_pos (by decide))) h2
      have h4 : V 4294967296 (X.drop i) = nth X i + 4294967296 * V 4294967296 (X.drop (i + 1)) := by rw [drop_nth (by omega)]; rfl
      have h5 := lX.nth (i := i) (by omega)
      omega
    have hdig := fun (rows : Pm.Rows) clk hr => digit_retG (id := 58) (ver := 0) (off := i) (m := m) X y' rows clk hr hy'l (by omega) ly' hy't lX (by omega) (by omega) hdlt
    have e6 : (i : Int) + ((m : Int) + 2) + 1 = ((i + m + 3 : Nat) : Int) := by omega
    have e7 : ((i : Int) + (m : Int) + 3).toNat - i = m + 3 := by omega
    refine W.skip ?_
    refine W.seq ?_
    refine W.block ?_   -- block 2
    refine W.reg (fun K hK => ?_)
    simp (disch := omega) [gA, wrap_i64, wrap_u64, wrap_u32, Int.tdiv_eq_ediv_of_nonneg, Int.tmod_eq_emod_of_nonneg, hr58, hXl, e6, e7]
    refine callM (hdig _ _ hr58) ?_
    rintro r rows' clk' ⟨D, rfl, rfl, rfl, hDl, lD, hDd, hDv⟩
    have hst := div_step (g := V 4294967296 ((X.drop i).take (m + 3)) / V 4294967296 y') lX lD hY'b hY'0 (by omega) hDl hDd rfl hDv hXU
    have hg0 : 0 ≤ V 4294967296 ((X.drop i).take (m + 3)) / V 4294967296 y' := Int.ediv_nonneg (V_nonneg (by decide) ((lX.drop i).take _)) (Int.le_of_lt hY'0)
    have hg1 : V 4294967296 ((X.drop i).take (m + 3)) / V 4294967296 y' < 4294967296 := Int.ediv_lt_of_lt_mul hY'0 hdlt
    generalize V 4294967296 ((X.drop i).take (m + 3)) / V 4294967296 y' = g at *
    have hXl2 : (X.take i ++ D).length = ql + m + 2 := by simp [hDl]; omega
    have lX2 : Lim 4294967296 (X.take i ++ D) := Lim.append.2 ⟨lX.take i, lD⟩
    obtain ⟨hst1, hst2⟩ := hst
    generalize X.take i ++ D = X2 at *
    simp (disch := omega) [gA, wrap_i64, wrap_u64, wrap_u32, Int.tdiv_eq_ediv_of_nonneg, Int.tmod_eq_emod_of_nonneg, hr71, hQl]
    refine hK _ (W.liveK [4, 9, 10, 11, 12, 13] fun K2 hK2 => ?_); clear hK K; simp; refine hK2 _ ?_; clear hK2 K2
    refine W.reg (fun K hK => ?_); simp (disch := omega) [gA, wrap_i64, wrap_u64, wrap_u32, Int.tdiv_eq_ediv_of_nonneg, Int.tmod_eq_emod_of_nonneg]
    refine hK _ ⟨i, _, Gh_fa _ [4, 9, 10, 11, 12, 13], by omega, v4, X2, Q.set i g, _, _, rfl, by simp, by simp, by omega, hXl2, by simp [hQl], lX2, lQ.set ⟨hg0, hg1⟩, ?_, hst1⟩
    rw [hst2, drop_nth (l := Q.set i g) (i := i) (by simp; omega), nth_set_self (by omega), List.drop_set_of_lt (by omega), ← hVX]
    simp only [V, Int.pow_succ]
    generalize V 4294967296 (Q.drop (i + 1)) = vq at *
    grind
  · have hq0 : q = 0 := by simp at h; omega
    subst hq0
    simp only [List.drop_zero, Int.pow_zero, Int.one_mul] at hVX hXU
    have hX0 := V_nonneg (b := 4294967296) (by decide) lX
    have hQe : V 4294967296 x' / V 4294967296 y' = V 4294967296 Q := by
      have e : (V 4294967296 Q + 1) * V 4294967296 y' = V 4294967296 Q * V 4294967296 y' + V 4294967296 y' := by grind
      rw [Int.ediv_eq_iff_of_pos hY'0]
      constructor <;> omega
    have hRe : V 4294967296 x' % V 4294967296 y' = V 4294967296 X := by
      have h3 := Int.emod_def (V 4294967296 x') (V 4294967296 y')
      rw [hQe, Int.mul_comm] at h3
      omega
    have hXt : V 4294967296 (X.take (m + 2)) = V 4294967296 X := by
      have h1 := V_split (b := 4294967296) X (m + 2) (by omega)
      have h2 := V_nonneg (b := 4294967296) (by decide) (lX.drop (m + 2))
      have h3 := V_nonneg (b := 4294967296) (by decide) (lX.take (m + 2))
      have h4 : (0 : Int) < 4294967296 ^ (m + 2) := Int.pow_pos (by decide)
      rcases Int.lt_or_le 0 (V 4294967296 (X.drop (m + 2))) with h5 | h5
      · exfalso
        have := Int.mul_le_mul_of_nonneg_left (show 1 ≤ V 4294967296 (X.drop (m + 2)) by omega) (Int.le_of_lt h4)
        omega
      · have : V 4294967296 (X.drop (m + 2)) = 0 := by omega
        rw [this] at h1; omega
    rw [hQe, hRe, ← hXt]
    have zQ := take_all hQl
    have zX := take_all hXl
    have hcut := cut_ret Q (by omega)
    rw [N_cut lQ] at hcut
    have hshr := Shr_ret (X.take (m + 2)) s hs31 (by simp; omega) (lX.take _)
    refine W.exit ?_; simp only [pblk_exit, pblk_normal, pblk_ret, pseq_exit, pseq_normal, pseq_ret, pnor_exit, pnor_normal, pnor_ret, if_true, if_false, reduceIte, Nat.reduceEqDiff]
    refine W.freeze 71 (by simp [hr71]) (fun K hK => ?_)
    simp [hr71, zQ]
    refine hK _ ?_; clear hK K
    refine W.freeze 58 (by simp [hr58]) (fun K hK => ?_)
    simp [hr58, zX]
    refine hK _ ?_; clear hK K
    have e8 : ((m : Int) + 2).toNat = m + 2 := by omega
    refine W.sdrw (fun K hK => ?_)
    simp (disch := omega) [gA, wrap_i64, wrap_u64, wrap_u32, Int.tdiv_eq_ediv_of_nonneg, Int.tmod_eq_emod_of_nonneg]
    refine callR hcut ?_
    simp (disch := omega) [gA, wrap_i64, wrap_u64, wrap_u32, Int.tdiv_eq_ediv_of_nonneg, Int.tmod_eq_emod_of_nonneg, hXl, e8]
    refine callR hshr ?_
    simp (disch := omega) [gA, wrap_i64, wrap_u64, wrap_u32, Int.tdiv_eq_ediv_of_nonneg, Int.tmod_eq_emod_of_nonneg]
    refine hK _ (W.liveK [4, 5, 6] fun K2 hK2 => ?_); clear hK K; simp; refine hK2 _ ?_; clear hK2 K2
    refine W.ret ?_
    simp [go]
end Go.Proofs.Ytjnkpfknmncdmaa
