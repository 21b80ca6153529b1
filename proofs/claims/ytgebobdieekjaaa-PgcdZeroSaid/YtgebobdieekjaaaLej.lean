import Derived.Test.YtgebobdieekjaaaLei
set_option linter.unusedSimpArgs false
set_option linter.unusedVariables false
namespace Go.Proofs.Ytgebobdieekjaaa
open Go Pm

/-! CHAPTER 07's LAWS. -/
theorem is7_ret (x y : List Int) (hx : x.length < 1099511627776) (hy : y.length < 1099511627776) (zx : ∀ c ∈ x, Z c) (zy : ∀ c ∈ y, Z c) : Ret env.P 13 [PI x, Po y] (.bool (decide (x = y))) := by
  refine ret_of_Wf (E := env) (fun _ => 0) [(0, PI x), (1, Po y)] Try.func13 rfl (by kernel_rfl) (by kernel_rfl) (show 2 ≤ 8 by decide) (by simp) ?_
  refine W.sreg (fun K hK => ?_); simp (disch := omega) [gA, wrap_i64, wrap_u64, wrap_u32, Int.tdiv_eq_ediv_of_nonneg, Int.tmod_eq_emod_of_nonneg]; refine hK _ (W.liveK [0, 1] fun K2 hK2 => ?_); clear hK K; simp; refine hK2 _ ?_; clear hK2 K2
  refine W.sreg (fun K hK => ?_)
  simp (disch := omega) [gA, wrap_i64, wrap_u64, wrap_u32, Int.tdiv_eq_ediv_of_nonneg, Int.tmod_eq_emod_of_nonneg]
  refine callR (qSame_ret x y hx hy zx zy) ?_
  simp (disch := omega) [gA, wrap_i64, wrap_u64, wrap_u32, Int.tdiv_eq_ediv_of_nonneg, Int.tmod_eq_emod_of_nonneg]
  refine hK _ (W.liveK [4] fun K2 hK2 => ?_); clear hK K; simp; refine hK2 _ ?_; clear hK2 K2
  refine W.ret ?_
  simp [go]
theorem BZ.z {h n : Nat} {a : ZX} (b : BZ h n a) (hh : h < 1099511627776) : ∀ c ∈ a.l, Z c := fun c hc => Nat.lt_of_le_of_lt (b.sz c hc) hh
theorem isZ_ret {h n : Nat} {a : ZX} (b : BZ h n a) (hh : h < 1099511627776) (hn : n < 1099511627776) : Ret env.P 13 [PI a.l, Po a.l] (.bool true) := by
  have := is7_ret a.l a.l (Nat.lt_of_le_of_lt b.len hn) (Nat.lt_of_le_of_lt b.len hn) (b.z hh) (b.z hh)
  simpa using this
theorem oz_eq {a b : ZX} (ha : Nf a) (hb : Nf b) (h : ∀ p, ZX.Irr p → ZX.mu p b = ZX.mu p a % 2) : oz a = b := Nf.eq_of_mu (oz_Nf ha) hb fun p hp => by rw [oz_mu ha hp, h p hp]
theorem sq_eq {a b : ZX} (ha : a ≠ 0) (hb : Nf b) (h : ∀ p, ZX.Irr p → ZX.mu p b = min (ZX.mu p a) 1) : sq a = b := by
  have nA := nf_Nf ha
  have e : sq a = sz' (nf a) := by
    unfold sq
    split
    · rename_i h2
      have h3 : nf a = 1 := nA.N1 (by rw [N_nf]; exact h2)
      rw [h3]
      show 1 = wz 1 0
      rw [wz]
      show 1 = qz 1 (gd 1)
      rw [gd_one, Nf.one.self]
    · rfl
  rw [e]
  exact Nf.eq_of_mu (sz_Nf nA) hb fun p hp => by rw [sz_mu nA hp, mu_nf hp ha, h p hp]
theorem mu_lin {a p : ZX} (hp : ZX.Irr p) (ha : a ≠ 0) (hN : ZX.N a ≤ 2) : ZX.mu p a ≤ 1 := by
  rcases Nat.lt_or_ge (ZX.mu p a) 2 with h | h
  · omega
  · have h1 := ((ZX.mu_le hp ha).1 h).N_le ha
    have h2 : p ^ 2 = p * p := by rw [show (2 : Nat) = 1 + 1 from rfl, ZX.pow_succ', ZX.pow_succ', ZX.pow_zero']; grind
    rw [h2, ZX.N_mul hp.ne hp.ne] at h1
    have := hp.deg
    omega
def wa : ZX := ZX.of [-1, 1]
def wb : ZX := ZX.of [2, 1]
theorem wa_Nf : Nf wa := ⟨ZX.ne_zero.2 (by decide), by decide, by decide⟩
theorem wb_Nf : Nf wb := ⟨ZX.ne_zero.2 (by decide), by decide, by decide⟩
theorem w_apart {p : ZX} (hp : ZX.Irr p) : ZX.mu p wa = 0 ∨ ZX.mu p wb = 0 := by
  rcases Nat.eq_zero_or_pos (ZX.mu p wa) with h | h
  · exact .inl h
  · right
    rcases Nat.eq_zero_or_pos (ZX.mu p wb) with h2 | h2
    · exact h2
    · exfalso
      have e1 : p ^ 1 = p := by rw [ZX.pow_succ', ZX.pow_zero']; grind
      have d1 := (ZX.mu_le hp wa_Nf.ne).1 h
      have d2 := (ZX.mu_le hp wb_Nf.ne).1 h2
      rw [e1] at d1 d2
      have d3 := d2.add (d1.mul_left (ZX.K (-1)))
      have e : wb + ZX.K (-1) * wa = ZX.K 3 := ZX.ext fun t => by
        rw [ZX.v_add, ZX.v_mul, ZX.v_K, ZX.v_K, wa, wb, ZX.v_of, ZX.v_of]
        simp [V]; omega
      rw [e] at d3
      have := d3.N_le (ZX.K_ne (by decide))
      rw [ZX.N_K (by decide)] at this
      have := hp.deg
      omega
def wp7 : ZX := ZX.of [-2, 5, -3, -1, 1]
def wq7 : ZX := ZX.of [-2, 1, 1]
def wt7 : ZX := ZX.of [0, 0, 1]
theorem small_bz {a : ZX} {n : Nat} (hn : a.l.length ≤ n) (hc : ∀ c ∈ a.l, c.natAbs < 8) : BZ 3 n a := ⟨hn, fun c h => sz_le (by decide) (by have := hc c h; show _ < 8; exact this)⟩
theorem lay_small {a : ZX} (b : BZ 3 5 a) : Lay 3 5 a := ⟨b, by decide, by decide, by decide⟩
theorem wp_l : prodl [wa, wa, wa, wb] = wp7 := ZX.ext fun t => by
  simp only [prodl, List.foldl_cons, List.foldl_nil]
  rw [ZX.v_mul, ZX.v_mul, ZX.v_mul, ZX.v_mul, ZX.v_one, wa, wb, wp7, ZX.v_of, ZX.v_of, ZX.v_of]
  simp only [V]; grind
theorem wakes7_ret : Ret env.P 11 [] (.bool true) := by
  have bA : BZ 3 2 wa := small_bz (by decide) (by decide)
  have bB : BZ 3 2 wb := small_bz (by decide) (by decide)
  have o1 : Ret env.P 5 [.sl [[.int .i64 (-1)], [.int .i64 1]]] (Po wa.l) := pOf_ret [-1, 1] (by decide) (by decide)
  have o2 : Ret env.P 5 [.sl [[.int .i64 2], [.int .i64 1]]] (Po wb.l) := pOf_ret [2, 1] (by decide) (by decide)
  have pr := Product_ret [wa, wa, wa, wb] (by decide) (fun i hi => by
    have b1 : BZ 3 1 (1 : ZX) := small_bz (by decide) (by decide)
    have b2 := (BZ.mulc b1 bA (m := 2) (by decide))
    have b3 := (BZ.mulc b2 bA (m := 3) (by decide))
    have b4 := (BZ.mulc b3 bA (m := 4) (by decide))
    match i, hi with
    | 0, _ => exact pMulI_ret (bdL b1) (bdL bA) (by decide)
    | 1, _ => exact pMulI_ret (bdL b2) (bdL bA) (by decide)
    | 2, _ => exact pMulI_ret (bdL b3) (bdL bA) (by decide)
    | 3, _ => exact pMulI_ret (bdL b4) (bdL bB) (by decide))
  rw [wp_l] at pr
  replace pr : Ret env.P 33 [.sl [[Po wa.l], [Po wa.l], [Po wa.l], [Po wb.l]]] (Po [-2, 5, -3, -1, 1]) := pr
  have nP : Nf wp7 := ⟨ZX.ne_zero.2 (by decide), by decide, by decide⟩
  have od := Odd_ret (lay_small (small_bz (by decide) (by decide))) nP.ne
  have ab : wa * wb = wq7 := ZX.ext fun t => by
    rw [ZX.v_mul, wa, wb, wq7, ZX.v_of, ZX.v_of, ZX.v_of]
    simp only [V]; grind
  have e1 : oz (nf wp7) = wq7 := by
    rw [nP.nfe, ← ab]
    refine oz_eq nP (wa_Nf.mul wb_Nf) fun p hp => ?_
    have h1 : ZX.mu p wp7 = ZX.mu p wa + ZX.mu p wa + ZX.mu p wa + ZX.mu p wb := by
      rw [← wp_l]
      simp only [prodl, List.foldl_cons, List.foldl_nil]
      rw [ZX.mu_mul hp (ZX.mul_ne (ZX.mul_ne (ZX.mul_ne ZX.one_ne wa_Nf.ne) wa_Nf.ne) wa_Nf.ne) wb_Nf.ne, ZX.mu_mul hp (ZX.mul_ne (ZX.mul_ne ZX.one_ne wa_Nf.ne) wa_Nf.ne) wa_Nf.ne, ZX.mu_mul hp (ZX.mul_ne ZX.one_ne wa_Nf.ne) wa_Nf.ne, ZX.mu_mul hp ZX.one_ne wa_Nf.ne, ZX.mu_one hp]
      omega
    rw [h1, ZX.mu_mul hp wa_Nf.ne wb_Nf.ne]
    have h2 := mu_lin hp wa_Nf.ne (by decide)
    have h3 := mu_lin hp wb_Nf.ne (by decide)
    rcases w_apart hp with h4 | h4 <;> omega
  rw [e1] at od
  replace od : Ret env.P 9 [Po [-2, 5, -3, -1, 1]] (Po [-2, 1, 1]) := od
  have o3 : Ret env.P 12 [.sl [[.int .i64 (-2)], [.int .i64 1], [.int .i64 1]]] (PI [-2, 1, 1]) := qOf_ret [-2, 1, 1] (by decide) (by decide)
  have i1 : Ret env.P 13 [PI [-2, 1, 1], Po [-2, 1, 1]] (.bool true) := isZ_ret (a := wq7) (n := 3) (small_bz (by decide) (by decide)) (by decide) (by decide)
  -- the square of t
  have o4 : Ret env.P 5 [.sl [[.int .i64 0], [.int .i64 0], [.int .i64 1]]] (Po [0, 0, 1]) := pOf_ret [0, 0, 1] (by decide) (by decide)
  have nQ : Nf wt7 := ⟨ZX.ne_zero.2 (by decide), by decide, by decide⟩
  have nT : Nf (ZX.of [0, 1]) := ⟨ZX.ne_zero.2 (by decide), by decide, by decide⟩
  have od2 := Odd_ret (lay_small (small_bz (by decide) (by decide))) nQ.ne
  have e2 : oz (nf wt7) = 1 := by
    rw [nQ.nfe]
    refine oz_eq nQ Nf.one fun p hp => ?_
    have h1 : wt7 = ZX.of [0, 1] * ZX.of [0, 1] := ZX.ext fun t => by
      rw [ZX.v_mul, wt7, ZX.v_of, ZX.v_of]; simp only [V]; grind
    rw [h1, ZX.mu_mul hp nT.ne nT.ne, ZX.mu_one hp]; omega
  rw [e2] at od2
  replace od2 : Ret env.P 9 [Po [0, 0, 1]] (Po (1 : ZX).l) := od2
  have o5 := qOne_ret
  have i2 : Ret env.P 13 [PI (1 : ZX).l, Po (1 : ZX).l] (.bool true) := isZ_ret (n := 1) (small_bz (by decide) (by decide)) (by decide) (by decide)
  generalize wa.l = la at *
  generalize wb.l = lb at *
  generalize (1 : ZX).l = l1 at *
  refine ret_of_Wf (E := env) (fun _ => 0) [] Try.func11 rfl (by kernel_rfl) (by kernel_rfl) (show 0 ≤ 25 by decide) (by simp) ?_
  refine W.sreg (fun K hK => ?_)
  simp (disch := omega) [gA, wrap_i64, wrap_u64, wrap_u32, Int.tdiv_eq_ediv_of_nonneg, Int.tmod_eq_emod_of_nonneg]
  refine hK _ (W.liveK [] fun K2 hK2 => ?_); clear hK K; simp; refine hK2 _ ?_; clear hK2 K2
  refine W.sreg (fun K hK => ?_)
  simp (disch := omega) [gA, wrap_i64, wrap_u64, wrap_u32, Int.tdiv_eq_ediv_of_nonneg, Int.tmod_eq_emod_of_nonneg]
  refine callR o1 ?_
  simp (disch := omega) [gA, wrap_i64, wrap_u64, wrap_u32, Int.tdiv_eq_ediv_of_nonneg, Int.tmod_eq_emod_of_nonneg]
  refine callR o1 ?_
  simp (disch := omega) [gA, wrap_i64, wrap_u64, wrap_u32, Int.tdiv_eq_ediv_of_nonneg, Int.tmod_eq_emod_of_nonneg]
  refine callR o1 ?_
  simp (disch := omega) [gA, wrap_i64, wrap_u64, wrap_u32, Int.tdiv_eq_ediv_of_nonneg, Int.tmod_eq_emod_of_nonneg]
  refine callR o2 ?_
  simp (disch := omega) [gA, wrap_i64, wrap_u64, wrap_u32, Int.tdiv_eq_ediv_of_nonneg, Int.tmod_eq_emod_of_nonneg]
  refine callR pr ?_
  simp (disch := omega) [gA, wrap_i64, wrap_u64, wrap_u32, Int.tdiv_eq_ediv_of_nonneg, Int.tmod_eq_emod_of_nonneg]
  refine hK _ (W.liveK [1] fun K2 hK2 => ?_); clear hK K; simp; refine hK2 _ ?_; clear hK2 K2
  refine W.sreg (fun K hK => ?_)
  simp (disch := omega) [gA, wrap_i64, wrap_u64, wrap_u32, Int.tdiv_eq_ediv_of_nonneg, Int.tmod_eq_emod_of_nonneg]
  refine callR o3 ?_
  simp (disch := omega) [gA, wrap_i64, wrap_u64, wrap_u32, Int.tdiv_eq_ediv_of_nonneg, Int.tmod_eq_emod_of_nonneg]
  refine callR od ?_
  simp (disch := omega) [gA, wrap_i64, wrap_u64, wrap_u32, Int.tdiv_eq_ediv_of_nonneg, Int.tmod_eq_emod_of_nonneg]
  refine callR i1 ?_
  simp (disch := omega) [gA, wrap_i64, wrap_u64, wrap_u32, Int.tdiv_eq_ediv_of_nonneg, Int.tmod_eq_emod_of_nonneg]
  refine callR o5 ?_
  simp (disch := omega) [gA, wrap_i64, wrap_u64, wrap_u32, Int.tdiv_eq_ediv_of_nonneg, Int.tmod_eq_emod_of_nonneg]
  refine callR o4 ?_
  simp (disch := omega) [gA, wrap_i64, wrap_u64, wrap_u32, Int.tdiv_eq_ediv_of_nonneg, Int.tmod_eq_emod_of_nonneg]
  refine callR od2 ?_
  simp (disch := omega) [gA, wrap_i64, wrap_u64, wrap_u32, Int.tdiv_eq_ediv_of_nonneg, Int.tmod_eq_emod_of_nonneg]
  refine callR i2 ?_
  simp (disch := omega) [gA, wrap_i64, wrap_u64, wrap_u32, Int.tdiv_eq_ediv_of_nonneg, Int.tmod_eq_emod_of_nonneg]
  refine hK _ (W.liveK [0] fun K2 hK2 => ?_); clear hK K; simp; refine hK2 _ ?_; clear hK2 K2
  refine W.ret ?_
  simp [go]
end Go.Proofs.Ytgebobdieekjaaa
