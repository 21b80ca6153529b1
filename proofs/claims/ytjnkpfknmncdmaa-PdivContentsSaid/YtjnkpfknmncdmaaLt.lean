import Derived.Test.YtjnkpfknmncdmaaLs
set_option linter.unusedSimpArgs false
set_option linter.unusedVariables false
namespace Go.Proofs.Ytjnkpfknmncdmaa
open Go Pm

/-- How many binary digits, below 2^39. -/
abbrev Y (x : Int) : Prop := sz 2 x < 549755813888
theorem Y.z {x : Int} (h : Y x) : Z x := by simp only [Y, Z] at *; omega
theorem Ymono {x y : Int} (h : Y y) (hxy : x.natAbs ≤ y.natAbs) : Y x := Nat.lt_of_le_of_lt (sz_mono (by decide) hxy) h
theorem Zmono {x y : Int} (h : Z y) (hxy : x.natAbs ≤ y.natAbs) : Z x := Nat.lt_of_le_of_lt (sz_mono (by decide) hxy) h
theorem cmp3_nonpos {x y : Int} : cmp3 x y ≤ 0 ↔ x ≤ y := by simp only [cmp3]; split <;> (try split) <;> omega
@[simp] theorem cons_i64e {l : List Int} {x : Int} : [PV.int .i64 x] :: emap i64e l = emap i64e (x :: l) := by simp [emap]
@[simp] theorem persAll_i64e {l : List Int} : (∀ e ∈ emap i64e l, ∀ p ∈ e, pers1 p = true) = True := by simp [emap]
theorem V_drop_le {l : List Int} (h : Lim 10000 l) (k : Nat) (hk : k ≤ l.length) : V 10000 (l.drop k) ≤ V 10000 l := by
  rw [V_split l k hk]
  have h1 := V_nonneg (by decide) (h.take k)
  have h2 := V_nonneg (by decide) (h.drop k)
  have h3 : 1 ≤ (10000 : Int) ^ k := Int.pow_pos (by decide)
  have h4 := Int.mul_le_mul_of_nonneg_right h3 h2
  omega

theorem DivN_ret (x y : Int) (hx : 0 ≤ x) (hy : 0 < y) (zx : Y x) (zy : Y y) : Ret env.P 91 [Dn x, Dn y] (.tup [Dn (x / y), Dn (x % y)]) := by
  have hal : (dig DD x.toNat).length < 549755813888 := Nat.lt_of_le_of_lt (dd_len' hx) zx
  have la := Lim_dd x.toNat
  have hVa := V_dd hx
  refine ret_of_Wf (E := env) (fun _ => 0) [(0, Dn x), (1, Dn y)] Try.func91 rfl (by kernel_rfl) (by kernel_rfl) (show 2 ≤ 59 by decide) (by simp) ?_
  simp only [Dn]
  generalize ha : dig DD x.toNat = a at *
  refine W.sreg (fun K hK => ?_); simp (disch := omega) [gA, wrap_i64, wrap_u64, wrap_u32, Int.tdiv_eq_ediv_of_nonneg, Int.tmod_eq_emod_of_nonneg]; refine hK _ (W.liveK [0, 1] fun K2 hK2 => ?_); clear hK K; simp; refine hK2 _ ?_; clear hK2 K2
  refine W.sreg (fun K hK => ?_); simp (disch := omega) [gA, wrap_i64, wrap_u64, wrap_u32, Int.tdiv_eq_ediv_of_nonneg, Int.tmod_eq_emod_of_nonneg]; refine hK _ (W.liveK [0, 1, 6] fun K2 hK2 => ?_); clear hK K; simp; refine hK2 _ ?_; clear hK2 K2
  refine W.sreg (fun K hK => ?_); simp (disch := omega) [gA, wrap_i64, wrap_u64, wrap_u32, Int.tdiv_eq_ediv_of_nonneg, Int.tmod_eq_emod_of_nonneg]; refine hK _ (W.liveK [0, 1, 6, 7] fun K2 hK2 => ?_); clear hK K; simp; refine hK2 _ ?_; clear hK2 K2
  refine W.nils 7 (Dn 0) (by simp) rfl (fun K hK => ?_)
  refine hK _ (W.liveK [0, 1, 6, 7] fun K2 hK2 => ?_); clear hK K; simp; refine hK2 _ ?_; clear hK2 K2
  refine W.seq ?_
  refine W.sreg (fun K hK => ?_); simp (disch := omega) [gA, wrap_i64, wrap_u64, wrap_u32, Int.tdiv_eq_ediv_of_nonneg, Int.tmod_eq_emod_of_nonneg]; refine hK _ (W.liveK [0, 1, 6, 7, 8] fun K2 hK2 => ?_); clear hK K; simp; refine hK2 _ ?_; clear hK2 K2
  refine W.block ?_   -- block 0
  refine W.loopG (fun k σ => ∃ (r : Int) (z : List Int) (ver : Nat) (rows : Pm.Rows) (clk : Nat), σ = ⟨fa [(0, sls i64e a), (1, Dn y), (6, .own 14 ver 0 a.length), (7, Dn r), (8, .int .i64 ((k : Int) - 1))], rows, clk⟩ ∧
    rows 14 = some ⟨ver, 3, 1, emap i64e z⟩ ∧ k ≤ a.length ∧ z.length = a.length ∧ Lim 10000 z ∧ 0 ≤ r ∧ r < y ∧ V 10000 (a.drop k) = y * V 10000 (z.drop k) + r) a.length ?_ ?_
  · exact ⟨_, Gh.fr [(0, sls i64e a), (1, Dn y), (6, .own 14 0 0 a.length), (7, Dn 0), (8, .int .i64 ((a.length : Int) - 1))] (by simp), 0, List.replicate a.length 0, _, _, _, rfl, by simp, by omega, by simp, Lim.rep (by decide) _, by omega, hy, by simp [V]⟩
  rintro k _ ⟨r, z, ver, rows, clk, rfl, hr, hk, hz, lz, hr0, hr1, hV⟩
  refine W.seq ?_
  refine W.sreg (fun K hK => ?_); simp (disch := omega) [gA, wrap_i64, wrap_u64, wrap_u32, Int.tdiv_eq_ediv_of_nonneg, Int.tmod_eq_emod_of_nonneg]; refine hK _ (W.liveK [0, 1, 6, 7, 8, 19] fun K2 hK2 => ?_); clear hK K; simp; refine hK2 _ ?_; clear hK2 K2
  refine W.cond ⟨_, rfl, fun h => ?_, fun h => ?_⟩   -- t19
  · simp at h
    obtain ⟨j, rfl⟩ : ∃ j, k = j + 1 := ⟨k - 1, by omega⟩
    clear h
    have hxj := la.nth (i := j) (by omega)
    have hVz := V_nonneg (by decide) (lz.drop (j + 1))
    have hyV := Int.mul_nonneg (Int.le_of_lt hy) hVz
    have hR : V 10000 (a.drop j) = y * (10000 * V 10000 (z.drop (j + 1))) + (nth a j + 10000 * r) := by
      rw [drop_nth (l := a) (i := j) (by omega)]; simp only [V]; rw [hV]; grind
    have hRx : nth a j + 10000 * r ≤ x := by
      have h1 := V_drop_le la j (by omega)
      have h2 : 0 ≤ y * (10000 * V 10000 (z.drop (j + 1))) := Int.mul_nonneg (Int.le_of_lt hy) (by omega)
      omega
    have hrl : (dig DD r.toNat).length < 549755813888 := Nat.lt_of_le_of_lt (dd_len' hr0) (Ymono zy (by omega))
    have hcut : sls i64e (cutR (nth a j :: dig DD r.toNat)) = Dn (nth a j + 10000 * r) := by
      rw [Dn_cut (Lim.cons.2 ⟨hxj, Lim_dd _⟩)]
      simp only [V, V_dd hr0]
    refine W.skip ?_
    refine W.seq ?_
    refine W.block ?_   -- block 1
    refine W.sreg (fun K hK => ?_)
    simp (disch := omega) [gA, wrap_i64, wrap_u64, wrap_u32, Int.tdiv_eq_ediv_of_nonneg, Int.tmod_eq_emod_of_nonneg]
    refine callR (rcut_ret (nth a j :: dig DD r.toNat) (by simp; omega)) ?_
    rw [hcut]
    have hR0 : 0 ≤ nth a j + 10000 * r := by omega
    have hR1 : nth a j + 10000 * r < y * 10000 := by omega
    have zR : Y (nth a j + 10000 * r) := Ymono zx (by omega)
    generalize nth a j + 10000 * r = R at *
    simp (disch := omega) [gA, wrap_i64, wrap_u64, wrap_u32, Int.tdiv_eq_ediv_of_nonneg, Int.tmod_eq_emod_of_nonneg]
    refine hK _ (W.liveK [0, 1, 6, 7, 8] fun K2 hK2 => ?_); clear hK K; simp; refine hK2 _ ?_; clear hK2 K2
    refine W.sreg (fun K hK => ?_); simp (disch := omega) [gA, wrap_i64, wrap_u64, wrap_u32, Int.tdiv_eq_ediv_of_nonneg, Int.tmod_eq_emod_of_nonneg]; refine hK _ (W.liveK [0, 1, 6, 7, 8, 9, 10] fun K2 hK2 => ?_); clear hK K; simp; refine hK2 _ ?_; clear hK2 K2
    refine W.seq ?_
    refine W.block ?_   -- block 2
    refine W.loopG (fun m σ => ∃ (lo hi : Int), σ = ⟨fa [(0, sls i64e a), (1, Dn y), (6, .own 14 ver 0 a.length), (7, Dn R), (8, .int .i64 (j : Int)), (9, .int .i64 lo), (10, .int .i64 hi)], rows, clk⟩ ∧
      m = (hi - lo).toNat ∧ 0 ≤ lo ∧ lo ≤ hi ∧ hi ≤ 9999 ∧ y * lo ≤ R ∧ R < y * (hi + 1)) 9999 ?_ ?_
    · exact ⟨_, Gh.fr [(0, sls i64e a), (1, Dn y), (6, .own 14 ver 0 a.length), (7, Dn R), (8, .int .i64 (j : Int)), (9, .int .i64 0), (10, .int .i64 9999)] (by simp), 0, 9999, rfl, by decide, by omega, by omega, by omega, by omega, by omega⟩
    rintro m _ ⟨lo, hi, rfl, hm, hlo, hlh, hhi, h1, h2⟩
    refine W.seq ?_
    refine W.sreg (fun K hK => ?_); simp (disch := omega) [gA, wrap_i64, wrap_u64, wrap_u32, Int.tdiv_eq_ediv_of_nonneg, Int.tmod_eq_emod_of_nonneg]; refine hK _ (W.liveK [0, 1, 6, 7, 8, 9, 10, 32] fun K2 hK2 => ?_); clear hK K; simp; refine hK2 _ ?_; clear hK2 K2
    refine W.cond ⟨_, rfl, fun h => ?_, fun h => ?_⟩   -- t32
    · simp at h
      refine W.skip ?_
      refine W.block ?_   -- block 3
      refine W.sreg (fun K hK => ?_); simp (disch := omega) [gA, wrap_i64, wrap_u64, wrap_u32, Int.tdiv_eq_ediv_of_nonneg, Int.tmod_eq_emod_of_nonneg]; refine hK _ (W.liveK [0, 1, 6, 7, 8, 9, 10, 11] fun K2 hK2 => ?_); clear hK K; simp; refine hK2 _ ?_; clear hK2 K2
      have hm1 : lo < (lo + hi + 1) / 2 := by omega
      have hm2 : (lo + hi + 1) / 2 ≤ hi := by omega
      generalize (lo + hi + 1) / 2 = mid at *
      have hp : 0 ≤ y * mid := Int.mul_nonneg (by omega) (by omega)
      have zp : Z (y * mid) := by
        have h3 : sz 2 mid ≤ 14 := sz_le (by decide) (by simp; omega)
        have h4 := sz_mul (b := 2) (by decide) (Nat.le_refl (sz 2 y)) h3
        simp only [Z, Y] at *; omega
      have hma := mulAdd_ret' y mid 0 (by omega) zy.z (by omega) (by omega) (by decide) (by decide)
      rw [Int.add_zero] at hma
      refine W.sreg (fun K hK => ?_)
      simp (disch := omega) [gA, wrap_i64, wrap_u64, wrap_u32, Int.tdiv_eq_ediv_of_nonneg, Int.tmod_eq_emod_of_nonneg]
      refine callR hma ?_
      simp (disch := omega) [gA, wrap_i64, wrap_u64, wrap_u32, Int.tdiv_eq_ediv_of_nonneg, Int.tmod_eq_emod_of_nonneg]
      refine callR (CmpN_ret (y * mid) R hp hR0 zp zR.z) ?_
      simp (disch := omega) [gA, wrap_i64, wrap_u64, wrap_u32, Int.tdiv_eq_ediv_of_nonneg, Int.tmod_eq_emod_of_nonneg]
      refine hK _ (W.liveK [0, 1, 6, 7, 8, 9, 10, 11, 43] fun K2 hK2 => ?_); clear hK K; simp; refine hK2 _ ?_; clear hK2 K2
      refine W.cond ⟨_, rfl, fun h => ?_, fun h => ?_⟩   -- t43
      · have h := cmp3_nonpos.1 (of_decide_eq_true h)
        refine W.reg (fun K hK => ?_); simp (disch := omega) [gA, wrap_i64, wrap_u64, wrap_u32, Int.tdiv_eq_ediv_of_nonneg, Int.tmod_eq_emod_of_nonneg]
        exact hK _ ⟨(hi - mid).toNat, _, Gh_fa _ [0, 1, 6, 7, 8, 9, 10], by omega, mid, hi, rfl, rfl, by omega, by omega, by omega, h, h2⟩
      · have h := of_decide_eq_false h
        rw [cmp3_nonpos] at h
        refine W.reg (fun K hK => ?_); simp (disch := omega) [gA, wrap_i64, wrap_u64, wrap_u32, Int.tdiv_eq_ediv_of_nonneg, Int.tmod_eq_emod_of_nonneg]
        refine hK _ ⟨(mid - 1 - lo).toNat, _, Gh_fa _ [0, 1, 6, 7, 8, 9, 10], by omega, lo, mid - 1, rfl, rfl, by omega, by omega, by omega, h1, ?_⟩
        rw [show mid - 1 + 1 = mid by omega]; omega
    · simp at h
      have hlh2 : lo = hi := by omega
      subst hlh2
      have hp : 0 ≤ y * lo := Int.mul_nonneg (by omega) (by omega)
      have zp : Y (y * lo) := Ymono zR (by omega)
      have hma := mulAdd_ret' y lo 0 (by omega) zy.z (by omega) (by omega) (by decide) (by decide)
      rw [Int.add_zero] at hma
      refine W.exit ?_; simp only [pblk_exit, pblk_normal, pblk_ret, pseq_exit, pseq_normal, pseq_ret, pnor_exit, pnor_normal, pnor_ret, if_true, if_false, reduceIte, Nat.reduceEqDiff]
      refine W.sreg (fun K hK => ?_); simp (disch := omega) [gA, wrap_i64, wrap_u64, wrap_u32, Int.tdiv_eq_ediv_of_nonneg, Int.tmod_eq_emod_of_nonneg, hr]
      refine hK _ (W.liveK [0, 1, 6, 7, 8, 9] fun K2 hK2 => ?_); clear hK K; simp; refine hK2 _ ?_; clear hK2 K2
      refine W.reg (fun K hK => ?_)
      simp (disch := omega) [gA, wrap_i64, wrap_u64, wrap_u32, Int.tdiv_eq_ediv_of_nonneg, Int.tmod_eq_emod_of_nonneg]
      refine callR hma ?_
      simp (disch := omega) [gA, wrap_i64, wrap_u64, wrap_u32, Int.tdiv_eq_ediv_of_nonneg, Int.tmod_eq_emod_of_nonneg]
      refine callR (SubN_ret R (y * lo) hp h1 zR.z) ?_
      simp (disch := omega) [gA, wrap_i64, wrap_u64, wrap_u32, Int.tdiv_eq_ediv_of_nonneg, Int.tmod_eq_emod_of_nonneg]
      refine hK _ (W.liveK [0, 1, 6, 7, 8] fun K2 hK2 => ?_); clear hK K; simp; refine hK2 _ ?_; clear hK2 K2
      refine W.reg (fun K hK => ?_); simp (disch := omega) [gA, wrap_i64, wrap_u64, wrap_u32, Int.tdiv_eq_ediv_of_nonneg, Int.tmod_eq_emod_of_nonneg]
      refine hK _ ⟨j, _, Gh_fa _ [0, 1, 6, 7, 8], by omega, R - y * lo, z.set j lo, ver, _, _, rfl, by simp, by omega, by simpa using hz, lz.set (by omega), by omega, by rw [Int.mul_add] at h2; omega, ?_⟩
      rw [hR, drop_nth (l := z.set j lo) (i := j) (by simp; omega), nth_set_self (by omega), List.drop_set_of_lt (by omega)]
      simp only [V]
      grind
  · simp at h
    have hk0 : k = 0 := by omega
    subst hk0
    simp only [List.drop_zero] at hV
    have ez : z.take a.length = z := take_all hz
    have hzn := V_nonneg (by decide) lz
    rw [hVa] at hV
    have e1 : x / y = V 10000 z := by
      rw [hV, Int.mul_add_ediv_left _ _ (by omega), Int.ediv_eq_zero_of_lt hr0 hr1]; simp
    have e2 : x % y = r := by
      rw [hV, Int.mul_add_emod_self_left, Int.emod_eq_of_lt hr0 hr1]
    refine W.exit ?_; simp only [pblk_exit, pblk_normal, pblk_ret, pseq_exit, pseq_normal, pseq_ret, pnor_exit, pnor_normal, pnor_ret, if_true, if_false, reduceIte, Nat.reduceEqDiff]
    refine W.sreg (fun K hK => ?_)
    simp (disch := omega) [gA, wrap_i64, wrap_u64, wrap_u32, Int.tdiv_eq_ediv_of_nonneg, Int.tmod_eq_emod_of_nonneg, hr, ez]
    refine callR (rcut_ret z (by omega)) ?_
    simp (disch := omega) [gA, wrap_i64, wrap_u64, wrap_u32, Int.tdiv_eq_ediv_of_nonneg, Int.tmod_eq_emod_of_nonneg]
    refine hK _ (W.liveK [4, 5] fun K2 hK2 => ?_); clear hK K; simp; refine hK2 _ ?_; clear hK2 K2
    refine W.ret ?_
    have h4 := Dn_cut lz
    simp only [Dn] at h4
    rw [e1, e2, ← h4]
    simp [go]

theorem rGcd_ret (a b : Int) (za : Y a) (zb : Y b) : Ret env.P 42 [RI a, RI b] (RI (Int.gcd a b)) := by
  refine ret_of_Wf (E := env) (fun _ => 0) [(0, RI a), (1, RI b)] Try.func42 rfl (by kernel_rfl) (by kernel_rfl) (show 2 ≤ 26 by decide) (by simp) ?_
  refine W.sreg (fun K hK => ?_); simp (disch := omega) [gA, wrap_i64, wrap_u64, wrap_u32, Int.tdiv_eq_ediv_of_nonneg, Int.tmod_eq_emod_of_nonneg]; refine hK _ (W.liveK [2, 3, 4] fun K2 hK2 => ?_); clear hK K; simp; refine hK2 _ ?_; clear hK2 K2
  refine W.sdrw (fun K hK => ?_); simp (disch := omega) [gA, wrap_i64, wrap_u64, wrap_u32, Int.tdiv_eq_ediv_of_nonneg, Int.tmod_eq_emod_of_nonneg]; refine hK _ (W.liveK [4, 5, 6] fun K2 hK2 => ?_); clear hK K; simp; refine hK2 _ ?_; clear hK2 K2
  refine W.seq ?_
  refine W.block ?_   -- block 0
  refine W.loopG (fun k σ => ∃ (x : Nat) (rows : Pm.Rows) (clk : Nat), σ = ⟨fa [(4, .ptr 4 2 0 0), (5, sls i64e (dig DD x)), (6, sls i64e (dig DD k))], rows, clk⟩ ∧ rows 4 = some ⟨2, 59, 2, [[.nil, .bool false]]⟩ ∧ Nat.gcd x k = Int.gcd a b ∧ Y (x : Int) ∧ Y (k : Int)) b.natAbs ?_ ?_
  · exact ⟨_, .refl, a.natAbs, _, _, rfl, by simp, rfl, by simpa [Y, sz] using za, by simpa [Y, sz] using zb⟩
  rintro k _ ⟨x, rows, clk, rfl, hr4, hg, zx, zk⟩
  have e0 : (dig DD k).length = 0 ↔ k = 0 := by rw [List.length_eq_zero_iff, dig_eq_nil hDD]
  refine W.seq ?_
  refine W.sreg (fun K hK => ?_); simp (disch := omega) [gA, wrap_i64, wrap_u64, wrap_u32, Int.tdiv_eq_ediv_of_nonneg, Int.tmod_eq_emod_of_nonneg]; refine hK _ (W.liveK [4, 5, 6, 15] fun K2 hK2 => ?_); clear hK K; simp; refine hK2 _ ?_; clear hK2 K2
  refine W.cond ⟨_, rfl, fun h => ?_, fun h => ?_⟩   -- t15
  · have hk0 : k ≠ 0 := by intro h0; have h1 := e0.2 h0; simp at h; omega
    have hdiv := DivN_ret (x : Int) (k : Int) (by omega) (by omega) zx zk
    have em : (((x : Int) % k).toNat) = x % k := by rw [← Int.natCast_emod]; exact Int.toNat_natCast _
    have ed : (((x : Int) / k).toNat) = x / k := by rw [← Int.natCast_ediv]; exact Int.toNat_natCast _
    simp only [Dn, em, ed, Int.toNat_natCast] at hdiv
    have hlt := Nat.mod_lt x (show k > 0 by omega)
    have hg2 : Nat.gcd k (x % k) = Int.gcd a b := by rw [← hg, Nat.gcd_comm x k, Nat.gcd_rec k x, Nat.gcd_comm]
    have zm : Y ((x % k : Nat) : Int) := Ymono zk (by simp only [Int.natAbs_natCast]; omega)
    refine W.skip ?_
    refine W.block ?_   -- block 1
    refine W.sreg (fun K hK => ?_)
    simp (disch := omega) [gA, wrap_i64, wrap_u64, wrap_u32, Int.tdiv_eq_ediv_of_nonneg, Int.tmod_eq_emod_of_nonneg]
    refine callR hdiv ?_
    generalize x % k = y at *
    simp (disch := omega) [gA, wrap_i64, wrap_u64, wrap_u32, Int.tdiv_eq_ediv_of_nonneg, Int.tmod_eq_emod_of_nonneg]
    refine hK _ (W.liveK [4, 6, 8] fun K2 hK2 => ?_); clear hK K; simp; refine hK2 _ ?_; clear hK2 K2
    refine W.reg (fun K hK => ?_); simp (disch := omega) [gA, wrap_i64, wrap_u64, wrap_u32, Int.tdiv_eq_ediv_of_nonneg, Int.tmod_eq_emod_of_nonneg]
    exact hK _ ⟨y, _, Gh_fa _ [4, 5, 6], hlt, k, _, _, rfl, by simp [hr4], hg2, zk, zm⟩
  · have hk0 : k = 0 := by rw [← e0]; simp at h; simp [h]
    subst hk0
    rw [Nat.gcd_zero_right] at hg
    subst hg
    refine W.exit ?_; simp only [pblk_exit, pblk_normal, pblk_ret, pseq_exit, pseq_normal, pseq_ret, pnor_exit, pnor_normal, pnor_ret, if_true, if_false, reduceIte, Nat.reduceEqDiff]
    refine W.sreg (fun K hK => ?_); simp (disch := omega) [gA, wrap_i64, wrap_u64, wrap_u32, Int.tdiv_eq_ediv_of_nonneg, Int.tmod_eq_emod_of_nonneg, hr4]
    refine hK _ (W.liveK [4] fun K2 hK2 => ?_); clear hK K; simp; refine hK2 _ ?_; clear hK2 K2
    refine W.ret ?_
    simp [go]

theorem tdiv_signs (a b : Int) : (if decide (a < 0) != decide (b < 0) then -((a.natAbs / b.natAbs : Nat) : Int) else ((a.natAbs / b.natAbs : Nat) : Int)) = a.tdiv b := by
  have h : ∀ x y : Nat, ((x / y : Nat) : Int) = (x : Int).tdiv y := fun x y => by rw [Int.natCast_ediv, Int.tdiv_eq_ediv_of_nonneg (by omega)]
  rw [h]
  by_cases h1 : a < 0 <;> by_cases h2 : b < 0
  · simp only [h1, h2, show (a.natAbs : Int) = -a by omega, show (b.natAbs : Int) = -b by omega]; simp
  · simp only [h1, h2, show (a.natAbs : Int) = -a by omega, show (b.natAbs : Int) = b by omega]; simp
  · simp only [h1, h2, show (a.natAbs : Int) = a by omega, show (b.natAbs : Int) = -b by omega]; simp
  · simp only [h1, h2, show (a.natAbs : Int) = a by omega, show (b.natAbs : Int) = b by omega]; simp

theorem rQuo_ret (a b : Int) (hb : b ≠ 0) (za : Y a) (zb : Y b) : Ret env.P 86 [RI a, RI b] (RI (a.tdiv b)) := by
  have hdiv := DivN_ret (a.natAbs : Int) (b.natAbs : Int) (by omega) (by omega) (by simpa [Y, sz] using za) (by simpa [Y, sz] using zb)
  have em : (((a.natAbs : Int) % b.natAbs).toNat) = a.natAbs % b.natAbs := by rw [← Int.natCast_emod]; exact Int.toNat_natCast _
  have ed : (((a.natAbs : Int) / b.natAbs).toNat) = a.natAbs / b.natAbs := by rw [← Int.natCast_ediv]; exact Int.toNat_natCast _
  have hs := tdiv_signs a b
  refine ret_of_Wf (E := env) (fun _ => 0) [(0, RI a), (1, RI b)] Try.func86 rfl (by kernel_rfl) (by kernel_rfl) (show 2 ≤ 22 by decide) (by simp) ?_
  refine W.sreg (fun K hK => ?_); simp (disch := omega) [gA, wrap_i64, wrap_u64, wrap_u32, Int.tdiv_eq_ediv_of_nonneg, Int.tmod_eq_emod_of_nonneg]; refine hK _ (W.liveK [2, 3, 4] fun K2 hK2 => ?_); clear hK K; simp; refine hK2 _ ?_; clear hK2 K2
  simp only [Dn, em, ed, Int.toNat_natCast] at hdiv
  generalize a.natAbs / b.natAbs = q at *
  generalize a.natAbs % b.natAbs = r at *
  refine W.sreg (fun K hK => ?_)
  simp (disch := omega) [gA, wrap_i64, wrap_u64, wrap_u32, Int.tdiv_eq_ediv_of_nonneg, Int.tmod_eq_emod_of_nonneg]
  refine callR hdiv ?_
  simp (disch := omega) [gA, wrap_i64, wrap_u64, wrap_u32, Int.tdiv_eq_ediv_of_nonneg, Int.tmod_eq_emod_of_nonneg]
  refine hK _ (W.liveK [2, 3, 4, 5] fun K2 hK2 => ?_); clear hK K; simp; refine hK2 _ ?_; clear hK2 K2
  refine W.sreg (fun K hK => ?_)
  simp (disch := omega) [gA, wrap_i64, wrap_u64, wrap_u32, Int.tdiv_eq_ediv_of_nonneg, Int.tmod_eq_emod_of_nonneg]
  refine callR (rmade_retN q (decide (a < 0) != decide (b < 0))) ?_
  rw [hs]
  simp (disch := omega) [gA, wrap_i64, wrap_u64, wrap_u32, Int.tdiv_eq_ediv_of_nonneg, Int.tmod_eq_emod_of_nonneg]
  refine hK _ (W.liveK [4] fun K2 hK2 => ?_); clear hK K; simp; refine hK2 _ ?_; clear hK2 K2
  refine W.ret ?_
  simp [go]
end Go.Proofs.Ytjnkpfknmncdmaa
