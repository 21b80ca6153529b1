import Derived.Test.YtjnkpfknmncdmaaLbk
import Derived.Test.YtjnkpfknmncdmaaMn
set_option linter.unusedSimpArgs false
set_option linter.unusedVariables false
namespace Go.Proofs.Ytjnkpfknmncdmaa
open Go Pm

theorem dvd_gcdL {d : Nat} {x : List Int} (h : ∀ c ∈ x, (d : Int) ∣ c) : d ∣ gcdL x := by
  have key : ∀ (l : List Int) (g : Nat), d ∣ g → (∀ c ∈ l, (d : Int) ∣ c) → d ∣ l.foldl (fun g c => Nat.gcd g c.natAbs) g := by
    intro l
    induction l with
    | nil => intro g hg _; exact hg
    | cons c l ih =>
      intro g hg hl
      rw [List.foldl_cons]
      exact ih _ (Nat.dvd_gcd hg (Int.ofNat_dvd_left.1 (hl c (by simp)))) fun v hv => hl v (by simp [hv])
  exact key x 0 (Nat.dvd_zero d) h
theorem div_out {x : List Int} {g : Int} (h : ∀ c ∈ x, g ∣ c) : (x.map (exq g)).map (· * g) = x := by
  rw [List.map_map]
  refine (List.map_congr_left fun v hv => ?_).trans (List.map_id _)
  have h1 : v % g = 0 := Int.emod_eq_zero_of_dvd (h v hv)
  simp only [Function.comp_apply, exq, id_eq]
  rw [if_pos h1]
  exact Int.ediv_mul_cancel (h v hv)
theorem gcdL_prim {x y : List Int} {g : Int} (hg : g ≠ 0) (h : y.map (· * g) = x) (e : gcdL x = g.natAbs) : gcdL y = 1 := by
  have := gcdL_scale g y
  rw [h, e] at this
  exact Nat.eq_of_mul_eq_mul_right (show 0 < g.natAbs by omega) (by omega)
theorem V_mapmul (t : Int) (g : Int) (x : List Int) : V t (x.map (· * g)) = V t x * g := by
  have := V_map_mul (t := t) g id x
  simp only [id_eq, List.map_id_fun] at this
  exact this
/-- Gauss. -/
theorem gcdL_mul {x y : List Int} (cx : Cn x) (cy : Cn y) (hx : x ≠ []) (hy : y ≠ []) : gcdL (pmul x y) = gcdL x * gcdL y := by
  have gx := gcdL_Cn_pos cx hx
  have gy := gcdL_Cn_pos cy hy
  have hp : gcdL (pmul x y) ≠ 0 := gcdL_Cn_pos (Cn.pmul _ _) fun h => by
    have := pmul_len_eq cx cy (List.length_pos_iff.2 hx) (List.length_pos_iff.2 hy)
    rw [h] at this
    have h1 := List.length_pos_iff.2 hx
    have h2 := List.length_pos_iff.2 hy
    simp only [List.length_nil] at this
    omega
  obtain ⟨x', hx'⟩ : ∃ x' : List Int, x'.map (· * (gcdL x : Int)) = x := ⟨_, div_out (gcdL_dvd x)⟩
  obtain ⟨y', hy'⟩ : ∃ y' : List Int, y'.map (· * (gcdL y : Int)) = y := ⟨_, div_out (gcdL_dvd y)⟩
  have px := gcdL_prim (by omega) hx' (by omega)
  have py := gcdL_prim (by omega) hy' (by omega)
  have e : pmul x y = (pmul x' y').map (· * ((gcdL x : Int) * gcdL y)) := by
    rw [← pscale_Cn (Cn.pmul _ _) (Int.mul_ne_zero (by omega) (by omega))]
    refine Cn.ext (Cn.pmul _ _) (Cn.pscale _ _) fun t => ?_
    have h1 := V_mapmul t (gcdL x) x'
    have h2 := V_mapmul t (gcdL y) y'
    rw [hx'] at h1
    rw [hy'] at h2
    rw [V_pmul, V_pscale, V_pmul, h1, h2]
    grind
  rw [e, gcdL_scale] at hp
  rw [e, gcdL_scale, Int.natAbs_mul]
  have hd : 0 < gcdL (pmul x' y') := Nat.pos_of_mul_pos_right (Nat.pos_of_ne_zero hp)
  have hD := gauss _ (gcdL (pmul x' y')) x' y' (Nat.le_refl _) hd (Dv.of (gcdL_dvd _)) (fun d _ hy => Nat.dvd_one.1 (py ▸ dvd_gcdL hy.mem))
  have h1 : gcdL (pmul x' y') = 1 := Nat.dvd_one.1 (px ▸ dvd_gcdL hD.mem)
  rw [h1, Nat.one_mul]
  simp

/-- Content with the sign of the highest coefficient. -/
def pcn (x : List Int) : Int := if lead x < 0 then -(gcdL x : Int) else gcdL x
def prv (x : List Int) : List Int := cutR (x.map (exq (pcn x)))
theorem pcn_abs (x : List Int) : (pcn x).natAbs = gcdL x := by unfold pcn; split <;> omega
theorem pcn_dvd (x : List Int) : ∀ c ∈ x, pcn x ∣ c := fun c hc => by
  have := gcdL_dvd x c hc
  unfold pcn; split
  · exact Int.neg_dvd.2 this
  · exact this
theorem prv_map {x : List Int} (cx : Cn x) (hx : x ≠ []) : (prv x).map (· * pcn x) = x := by
  have gx := gcdL_Cn_pos cx hx
  have h0 := pcn_abs x
  rw [← pscale_Cn (show Cn (prv x) from Cn.cut _) (show pcn x ≠ 0 by omega)]
  refine Cn.ext (Cn.pscale _ _) cx fun t => ?_
  rw [V_pscale, prv, V_cutR, ← V_mapmul, div_out (pcn_dvd x)]
theorem prv_scale {x : List Int} (cx : Cn x) (hx : x ≠ []) : pscale (prv x) (pcn x) = x := by
  have gx := gcdL_Cn_pos cx hx
  have h0 := pcn_abs x
  rw [pscale_Cn (show Cn (prv x) from Cn.cut _) (show pcn x ≠ 0 by omega)]
  exact prv_map cx hx
theorem prv_gcd {x : List Int} (cx : Cn x) (hx : x ≠ []) : gcdL (prv x) = 1 := by
  have gx := gcdL_Cn_pos cx hx
  have h0 := pcn_abs x
  exact gcdL_prim (by omega) (prv_map cx hx) h0.symm
theorem prv_lead {x : List Int} (cx : Cn x) (hx : x ≠ []) : 0 < lead (prv x) := by
  have gx := gcdL_Cn_pos cx hx
  have h := prv_map cx hx
  have hl : (prv x).length = x.length := by rw [← congrArg List.length h]; simp
  have hx0 := List.length_pos_iff.2 hx
  have h1 : lead x = lead (prv x) * pcn x := by
    rw [lead, lead, hl, ← nth_mapmul, h]
  have hne := lead_ne (x := prv x) (Cn.cut _) (by omega)
  have hg : (0 : Int) < gcdL x := by omega
  unfold pcn at h1
  rcases Int.lt_trichotomy (lead (prv x)) 0 with h2 | h2 | h2
  · exfalso
    split at h1
    · rename_i h3
      have := Int.mul_pos (show (0 : Int) < -lead (prv x) by omega) hg
      rw [Int.mul_neg, ← Int.neg_mul] at h1
      omega
    · rename_i h3
      have := Int.mul_pos (show (0 : Int) < -lead (prv x) by omega) hg
      rw [Int.neg_mul] at this
      omega
  · exact absurd h2 hne
  · exact h2
theorem SignI_pos {v : Int} (h : 0 < v) : Ret env.P 53 [I v] (.int .i64 1) := by
  have := Sign_ret (decide (v < 0)) (dig LL v.natAbs)
  rw [if_neg (fun h0 => by
    have h1 := V_digA v
    rw [List.eq_nil_of_length_eq_zero h0] at h1
    simp only [V] at h1
    omega), if_neg (by simp; omega)] at this
  exact this
theorem ZeroI_zero : Ret env.P 47 [I 0] (.bool true) := Zero_ret false []

theorem Primitive_ret (a : RP) {s n : Nat} (ha : POK a) (sa : Bd LL s n (a.map gv)) (hs : s < 1099511627774) (hn : n < 1099511627774) :
    Ret env.P 43 [Pg a] (.tup [I (pcn (cfs a)), Po (prv (cfs a))]) := by
  have hA : Bd LL s n (cfs a) := sa.cut
  have ca : Cn (cfs a) := Cn.cut _
  have na := pNorm_ret a ha
  rw [show cutR (a.map gv) = cfs a from rfl] at na
  refine ret_of_Wf (E := env) (fun _ => 0) [(0, Pg a)] Try.func43 rfl (by kernel_rfl) (by kernel_rfl) (show 1 ≤ 23 by decide) (by simp) ?_
  generalize cfs a = x at *
  refine W.sreg (fun K hK => ?_); simp (disch := omega) [gA, wrap_i64, wrap_u64, wrap_u32, Int.tdiv_eq_ediv_of_nonneg, Int.tmod_eq_emod_of_nonneg]; refine hK _ (W.liveK [0, 2] fun K2 hK2 => ?_); clear hK K; simp; refine hK2 _ ?_; clear hK2 K2
  refine W.sreg (fun K hK => ?_)
  simp (disch := omega) [gA, wrap_i64, wrap_u64, wrap_u32, Int.tdiv_eq_ediv_of_nonneg, Int.tmod_eq_emod_of_nonneg]
  refine callR na ?_
  simp (disch := omega) [gA, wrap_i64, wrap_u64, wrap_u32, Int.tdiv_eq_ediv_of_nonneg, Int.tmod_eq_emod_of_nonneg]
  refine hK _ (W.liveK [0, 2] fun K2 hK2 => ?_); clear hK K; simp; refine hK2 _ ?_; clear hK2 K2
  refine W.seq ?_
  refine W.sreg (fun K hK => ?_); simp (disch := omega) [gA, wrap_i64, wrap_u64, wrap_u32, Int.tdiv_eq_ediv_of_nonneg, Int.tmod_eq_emod_of_nonneg]; refine hK _ (W.liveK [0, 2, 9] fun K2 hK2 => ?_); clear hK K; simp; refine hK2 _ ?_; clear hK2 K2
  refine W.cond ⟨_, rfl, fun h => ?_, fun h => ?_⟩   -- t9
  · have h : x = [] := by simp at h; exact h
    subst h
    rw [show pcn ([] : List Int) = 0 by decide, show prv ([] : List Int) = [] from rfl]
    refine W.sreg (fun K hK => ?_); simp (disch := omega) [gA, wrap_i64, wrap_u64, wrap_u32, Int.tdiv_eq_ediv_of_nonneg, Int.tmod_eq_emod_of_nonneg]; refine hK _ (W.liveK [2, 3] fun K2 hK2 => ?_); clear hK K; simp; refine hK2 _ ?_; clear hK2 K2
    refine W.ret ?_
    simp [go]
    exact ⟨rfl, rfl⟩
  have hx : x ≠ [] := by simp at h; exact h
  clear h
  have hx0 := List.length_pos_iff.2 hx
  have gx := gcdL_Cn_pos ca hx
  have hp0 := pcn_abs x
  have hC := ContentI_ret x (PD.of hA hs hn)
  have hL := LeadI_ret (PB.of hA (by omega) (by omega)) ca
  have hgs := gcdL_sz (s := s) hA.sz ca hx
  have hcs : sz LL (pcn x) ≤ s := by
    unfold pcn; split
    · rw [sz_neg]; exact hgs
    · exact hgs
  have hO := over_ret x (pcn x) (PD.of hA hs hn) (by omega) (by omega)
  rw [show cutR (x.map (exq (pcn x))) = prv x from rfl] at hO
  have hN := wNegI (x := (gcdL x : Int)) (by show sz LL _ < _; omega)
  refine W.skip ?_
  refine W.sreg (fun K hK => ?_)
  simp (disch := omega) [gA, wrap_i64, wrap_u64, wrap_u32, Int.tdiv_eq_ediv_of_nonneg, Int.tmod_eq_emod_of_nonneg]
  refine callR hC ?_
  simp (disch := omega) [gA, wrap_i64, wrap_u64, wrap_u32, Int.tdiv_eq_ediv_of_nonneg, Int.tmod_eq_emod_of_nonneg]
  refine hK _ (W.liveK [0, 2, 4] fun K2 hK2 => ?_); clear hK K; simp; refine hK2 _ ?_; clear hK2 K2
  refine W.seqJ (fun σ => ∃ (rows : Pm.Rows) (clk : Nat), σ = ⟨fa [(0, Po x), (2, .ptr 2 0 0 0), (4, .ptr 4 1 0 0)], rows, clk⟩ ∧ rows 2 = some ⟨0, 68, 2, [[.bool false, .nil]]⟩ ∧ rows 4 = some ⟨1, 68, 2, [ie (pcn x)]⟩) ?_ ?_
  · refine W.sregJ (fun σ => ∃ (rows : Pm.Rows) (clk : Nat), σ = ⟨fa [(0, Po x), (2, .ptr 2 0 0 0), (4, .ptr 4 1 0 0), (16, .bool (decide (lead x < 0)))], rows, clk⟩ ∧ rows 2 = some ⟨0, 68, 2, [[.bool false, .nil]]⟩ ∧ rows 4 = some ⟨1, 68, 2, [ie (gcdL x)]⟩) (fun K hK => ?_) ?_
    · simp (disch := omega) [gA, wrap_i64, wrap_u64, wrap_u32, Int.tdiv_eq_ediv_of_nonneg, Int.tmod_eq_emod_of_nonneg]
      refine callR hL ?_
      simp (disch := omega) [gA, wrap_i64, wrap_u64, wrap_u32, Int.tdiv_eq_ediv_of_nonneg, Int.tmod_eq_emod_of_nonneg]
      refine hK _ _ (Gh_fa _ [0, 2, 4, 16]) ⟨_, _, rfl, ?_, ?_⟩ <;> simp [ie]
    rintro _ ⟨rows, clk, rfl, hr2, hr4⟩
    refine W.condB (lead x < 0) rfl (fun h => ?_) (fun h => ?_)   -- t16
    · rw [pcn, if_pos h]
      refine W.reg (fun K hK => ?_)
      simp (disch := omega) [gA, wrap_i64, wrap_u64, wrap_u32, Int.tdiv_eq_ediv_of_nonneg, Int.tmod_eq_emod_of_nonneg, hr4]
      refine callR hN ?_
      simp (disch := omega) [gA, wrap_i64, wrap_u64, wrap_u32, Int.tdiv_eq_ediv_of_nonneg, Int.tmod_eq_emod_of_nonneg, hr4]
      exact hK _ ⟨_, Gh_fa _ [0, 2, 4], _, _, rfl, by simp [hr2], by simp⟩
    · rw [pcn, if_neg h]
      refine W.skip ?_
      exact ⟨_, Gh_fa _ [0, 2, 4], _, _, rfl, hr2, hr4⟩
  rintro _ ⟨rows, clk, rfl, hr2, hr4⟩
  generalize pcn x = c at *
  generalize prv x = p at *
  refine W.sdrw (fun K hK => ?_)
  simp (disch := omega) [gA, wrap_i64, wrap_u64, wrap_u32, Int.tdiv_eq_ediv_of_nonneg, Int.tmod_eq_emod_of_nonneg, hr4]
  refine callR hO ?_
  simp (disch := omega) [gA, wrap_i64, wrap_u64, wrap_u32, Int.tdiv_eq_ediv_of_nonneg, Int.tmod_eq_emod_of_nonneg, hr2, hr4]
  refine hK _ (W.liveK [2, 3] fun K2 hK2 => ?_); clear hK K; simp; refine hK2 _ ?_; clear hK2 K2
  refine W.ret ?_
  simp [go]
end Go.Proofs.Ytjnkpfknmncdmaa
