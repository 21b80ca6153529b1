import Derived.Test.YtjnkpfknmncdmaaLbj
import Derived.Test.YtjnkpfknmncdmaaMm
set_option linter.unusedSimpArgs false
set_option linter.unusedVariables false
namespace Go.Proofs.Ytjnkpfknmncdmaa
open Go Pm

theorem cfs_rwB (x : List Int) : cfs (x.map rw') = cutR x := by simp only [cfs, map_gv_rw]
theorem V_cfsB (t : Int) (p : RP) : V t (cfs p) = V t (p.map gv) := V_cutR _
theorem Cn_map_mul {x : List Int} (hx : Cn x) {m : Int} (hm : m ≠ 0) : Cn (x.map (· * m)) := by
  rcases Nat.eq_zero_or_pos x.length with h | h
  · have : x = [] := List.eq_nil_of_length_eq_zero h
    subst this; rfl
  · have e := lead_split h
    have : x.map (· * m) = (x.take (x.length - 1)).map (· * m) ++ [lead x * m] := by
      conv => lhs; rw [e]
      simp
    rw [this]
    exact cutR_ne (Int.mul_ne_zero (lead_ne hx h) hm) _
theorem pscale_Cn {x : List Int} (hx : Cn x) {m : Int} (hm : m ≠ 0) : pscale x m = x.map (· * m) := Cn_map_mul hx hm
theorem pscale_one {x : List Int} (hx : Cn x) : pscale x 1 = x := Cn.ext (Cn.pscale _ _) hx fun t => by rw [V_pscale]; omega
theorem pneg_scale (x : List Int) : pneg x = pscale x (-1) := Cn.ext (Cn.pneg _) (Cn.pscale _ _) fun t => by rw [V_pneg, V_pscale]; omega
theorem gcdL_scale (m : Int) (x : List Int) : gcdL (x.map (· * m)) = gcdL x * m.natAbs := by
  have key : ∀ (l : List Int) (g : Nat), (l.map (· * m)).foldl (fun g c => Nat.gcd g c.natAbs) (g * m.natAbs) = l.foldl (fun g c => Nat.gcd g c.natAbs) g * m.natAbs := by
    intro l
    induction l with
    | nil => intro g; rfl
    | cons c l ih =>
      intro g
      simp only [List.map_cons, List.foldl_cons]
      rw [Int.natAbs_mul, Nat.gcd_mul_right, ih]
  have := key x 0
  rw [Nat.zero_mul] at this
  exact this
theorem exq_scale {m : Int} (hm : 0 < m) (g v : Int) : exq (g * m) (v * m) = exq g v := by
  unfold exq
  rw [Int.mul_comm v, Int.mul_comm g, Int.mul_emod_mul_of_pos _ _ hm, Int.mul_ediv_mul_of_pos _ _ hm]
  have : m * (v % g) = 0 ↔ v % g = 0 := by
    constructor
    · intro h
      rcases Int.mul_eq_zero.1 h with h | h
      · omega
      · exact h
    · intro h; rw [h]; simp
  simp only [this]
theorem prim_scale {m : Int} (hm : 0 < m) (x : List Int) : prim (x.map (· * m)) = prim x := by
  unfold prim
  rw [gcdL_scale, List.map_map]
  congr 1
  refine List.map_congr_left fun v _ => ?_
  simp only [Function.comp_apply]
  have : ((gcdL x * m.natAbs : Nat) : Int) = (gcdL x : Int) * m := by rw [Int.natCast_mul]; congr 1; omega
  rw [this, exq_scale hm]
theorem prim_pscale {x : List Int} (hx : Cn x) {m : Int} (hm : 0 < m) : prim (pscale x m) = prim x := by rw [pscale_Cn hx (by omega), prim_scale hm]
/-- The sign of a power. -/
def sg (c : Int) (k : Nat) : Int := if k % 2 = 1 ∧ c < 0 then -1 else 1
theorem pow_sg (c : Int) : ∀ k : Nat, c ^ k = sg c k * (c.natAbs : Int) ^ k
  | 0 => by simp [sg]
  | k + 1 => by
    have ih := pow_sg c k
    have hc : c = (if c < 0 then -1 else 1) * (c.natAbs : Int) := by split <;> omega
    have hs : sg c (k + 1) = sg c k * (if c < 0 then -1 else 1) := by
      unfold sg
      by_cases h : c < 0
      · rcases Nat.mod_two_eq_zero_or_one k with h2 | h2
        · rw [if_pos ⟨by omega, h⟩, if_neg (by omega), if_pos h]; rfl
        · rw [if_neg (by omega), if_pos ⟨h2, h⟩, if_pos h]; rfl
      · rw [if_neg (fun h2 => h h2.2), if_neg (fun h2 => h h2.2), if_neg h]; rfl
    rw [Int.pow_succ, Int.pow_succ, ih, hs]
    conv => lhs; rw [hc]
    generalize (if c < 0 then (-1 : Int) else 1) = e at *
    have e3 : ((e * (c.natAbs : Int)).natAbs : Int) = (c.natAbs : Int) := by rw [← hc]
    rw [e3]
    grind
theorem sg_mul (c : Int) (k : Nat) : sg c k * sg c k = 1 := by unfold sg; split <;> rfl
theorem rst_sg {a b : List Int} (ca : Cn a) : rst a b = prim (pscale (pdm a b).2 (sg (lead b) (psk a b))) := by
  have cr := (pdm_Cn (b := b) ca).2
  unfold rst sg
  split
  · rw [pneg_scale]
  · rw [pscale_one cr]
theorem rst_eq {a a' b h : List Int} (ca : Cn a) (ca' : Cn a') (cb : Cn b) (hb : 0 < b.length) (e : ∀ t, V t a' = V t a + V t b * V t h) : rst a b = rst a' b := by
  have hc := lead_ne cb hb
  have cr := (pdm_Cn (b := b) ca).2
  have cr' := (pdm_Cn (b := b) ca').2
  have l1 := pdm_len (a := a) hb
  have l2 := pdm_len (a := a') hb
  have v1 := fun t => V_pdm t a b
  have v2 := fun t => V_pdm t a' b
  rw [rst_sg ca, rst_sg ca']
  generalize (pdm a b).1 = q at *
  generalize (pdm a b).2 = r at *
  generalize (pdm a' b).1 = q' at *
  generalize (pdm a' b).2 = r' at *
  generalize psk a b = k at *
  generalize psk a' b = k' at *
  generalize hcc : lead b = c at *
  have hu : psub (pscale r (c ^ k')) (pscale r' (c ^ k)) = [] := by
    refine mul_small (y := b) (h := padd (pscale h (-(c ^ k * c ^ k'))) (psub (pscale q' (c ^ k)) (pscale q (c ^ k')))) (Cn.psub _ _) cb hb (fun t => ?_) ?_
    · have h1 := v1 t
      have h2 := v2 t
      have h3 := e t
      rw [V_psub, V_pscale, V_pscale, V_padd, V_psub, V_pscale, V_pscale, V_pscale]
      have h4 : V t r = c ^ k * V t a - V t q * V t b := by omega
      have h5 : V t r' = c ^ k' * V t a' - V t q' * V t b := by omega
      rw [h4, h5, h3]
      generalize c ^ k = A at *
      generalize c ^ k' = B at *
      grind
    · have h1 := psub_len (pscale r (c ^ k')) (pscale r' (c ^ k))
      have h2 := pscale_len r (c ^ k')
      have h3 := pscale_len r' (c ^ k)
      omega
  have hv : ∀ t, V t r * c ^ k' = V t r' * c ^ k := fun t => by
    have := congrArg (V t) hu
    rw [V_psub, V_pscale, V_pscale] at this
    simp only [V] at this
    omega
  have hA : (0 : Int) < (c.natAbs : Int) ^ k := Int.pow_pos (by omega)
  have hB : (0 : Int) < (c.natAbs : Int) ^ k' := Int.pow_pos (by omega)
  rw [← prim_pscale (Cn.pscale r (sg c k)) hB, ← prim_pscale (Cn.pscale r' (sg c k')) hA]
  congr 1
  refine Cn.ext (Cn.pscale _ _) (Cn.pscale _ _) fun t => ?_
  rw [V_pscale, V_pscale, V_pscale, V_pscale]
  have h1 := hv t
  rw [pow_sg c k, pow_sg c k'] at h1
  have s1 := sg_mul c k
  have s2 := sg_mul c k'
  generalize sg c k = x at *
  generalize sg c k' = y at *
  generalize (c.natAbs : Int) ^ k = A at *
  generalize (c.natAbs : Int) ^ k' = B at *
  have h2 : V t r * x * B = V t r * (y * B) * (x * y) := by
    have : V t r * (y * B) * (x * y) = V t r * x * B * (y * y) := by grind
    rw [this, s2]; omega
  have h3 : V t r' * y * A = V t r' * (x * A) * (x * y) := by
    have : V t r' * (x * A) * (x * y) = V t r' * y * A * (x * x) := by grind
    rw [this, s1]; omega
  rw [h2, h3, h1]
theorem rst_nil {b : List Int} (hb : 0 < b.length) : rst [] b = [] := by
  have hk : psk [] b = 0 := by simp [psk]; omega
  have hp : pdm [] b = ([], []) := by rw [pdm, hk]; rfl
  rw [rst, hp, hk]
  rfl
theorem prim_len (x : List Int) : (prim x).length ≤ x.length := Nat.le_trans (cutR_len _) (by simp)
theorem pneg_len (x : List Int) : (pneg x).length ≤ x.length := Nat.le_trans (cutR_len _) (by simp)
theorem rst_len {a b : List Int} (hb : 0 < b.length) : (rst a b).length < b.length := by
  have h1 := pdm_len (a := a) hb
  unfold rst
  split
  · have h2 := prim_len (pneg (pdm a b).2)
    have h3 := pneg_len (pdm a b).2
    omega
  · have h2 := prim_len (pdm a b).2
    omega
theorem exq_sz (g v : Int) : sz LL (exq g v) ≤ sz LL v := sz_mono hLL (by
  unfold exq; split
  · exact Int.natAbs_ediv_le_natAbs _ _
  · simp)
theorem prim_bd {s n : Nat} {x : List Int} (h : Bd LL s n x) : Bd LL s n (prim x) := Bd.cut ⟨by simpa using h.len, fun c hc => by
  simp only [List.mem_map] at hc
  obtain ⟨v, hv, rfl⟩ := hc
  exact Nat.le_trans (exq_sz _ _) (h.sz v hv)⟩
theorem rst_bd {s s' N : Nat} {a b : List Int} (ha : Bd LL s N a) (hb : Bd LL s' N b) (h0 : 0 < b.length) : Bd LL (s + N * (s' + N + 1)) (N + N) (rst a b) := by
  have hk : psk a b ≤ N := by unfold psk; have := ha.len; omega
  obtain ⟨_, h2⟩ := ps_bd hLL hb (psk a b) s [] a hk ⟨by simp, fun c hc => by cases hc⟩ (ha.mono (by omega) (by omega))
  have h3 := Nat.mul_le_mul_right (s' + N + 1) hk
  have h4 : Bd LL (s + N * (s' + N + 1)) (N + N) (pdm a b).2 := Bd.mono h2 (by omega) (by omega)
  unfold rst
  split
  · exact prim_bd h4.pneg
  · exact prim_bd h4
theorem rst_Cn (a b : List Int) : Cn (rst a b) := by unfold rst; split <;> exact Cn.cut _

theorem Cut_ret (p : RP) (k n : Nat) (h : InP p) (hk : k < 1099511627776) (hn : n < 4294967296) : Ret env.P 30 [Pg p, .int .i64 k, .int .i64 n] (.tup [Pg (keepP k n p), PI (cfs (keepP k n p))]) := by
  have hkp := kPoly_ret p k n h.len (fun c hc => (h.ok c hc).2) hk (by omega)
  have hF := qFrom_ret _ ((Sm.keep h k n).fok hk hn)
  rw [show cutR ((keepP k n p).map gv) = cfs (keepP k n p) from rfl] at hF
  refine ret_of_Wf (E := env) (fun _ => 0) [(0, Pg p), (1, .int .i64 k), (2, .int .i64 n)] Try.func30 rfl (by kernel_rfl) (by kernel_rfl) (show 3 ≤ 15 by decide) (by simp) ?_
  refine W.sreg (fun K hK => ?_); simp (disch := omega) [gA, wrap_i64, wrap_u64, wrap_u32, Int.tdiv_eq_ediv_of_nonneg, Int.tmod_eq_emod_of_nonneg]; refine hK _ (W.liveK [0, 1, 2] fun K2 hK2 => ?_); clear hK K; simp; refine hK2 _ ?_; clear hK2 K2
  refine W.sreg (fun K hK => ?_)
  simp (disch := omega) [gA, wrap_i64, wrap_u64, wrap_u32, Int.tdiv_eq_ediv_of_nonneg, Int.tmod_eq_emod_of_nonneg]
  refine callR hkp ?_
  simp (disch := omega) [gA, wrap_i64, wrap_u64, wrap_u32, Int.tdiv_eq_ediv_of_nonneg, Int.tmod_eq_emod_of_nonneg]
  refine hK _ (W.liveK [0] fun K2 hK2 => ?_); clear hK K; simp; refine hK2 _ ?_; clear hK2 K2
  refine W.sreg (fun K hK => ?_)
  simp (disch := omega) [gA, wrap_i64, wrap_u64, wrap_u32, Int.tdiv_eq_ediv_of_nonneg, Int.tmod_eq_emod_of_nonneg]
  refine callR hF ?_
  simp (disch := omega) [gA, wrap_i64, wrap_u64, wrap_u32, Int.tdiv_eq_ediv_of_nonneg, Int.tmod_eq_emod_of_nonneg]
  refine hK _ (W.liveK [6, 7] fun K2 hK2 => ?_); clear hK K; simp; refine hK2 _ ?_; clear hK2 K2
  refine W.ret ?_
  simp [go]
theorem is_ret (x y : List Int) (hx : x.length < 1099511627776) (hy : y.length < 1099511627776) (zx : ∀ c ∈ x, Z c) (zy : ∀ c ∈ y, Z c) : Ret env.P 35 [PI x, Po y] (.bool (decide (x = y))) := by
  refine ret_of_Wf (E := env) (fun _ => 0) [(0, PI x), (1, Po y)] Try.func35 rfl (by kernel_rfl) (by kernel_rfl) (show 2 ≤ 8 by decide) (by simp) ?_
  refine W.sreg (fun K hK => ?_); simp (disch := omega) [gA, wrap_i64, wrap_u64, wrap_u32, Int.tdiv_eq_ediv_of_nonneg, Int.tmod_eq_emod_of_nonneg]; refine hK _ (W.liveK [0, 1] fun K2 hK2 => ?_); clear hK K; simp; refine hK2 _ ?_; clear hK2 K2
  refine W.sreg (fun K hK => ?_)
  simp (disch := omega) [gA, wrap_i64, wrap_u64, wrap_u32, Int.tdiv_eq_ediv_of_nonneg, Int.tmod_eq_emod_of_nonneg]
  refine callR (qSame_ret x y hx hy zx zy) ?_
  simp (disch := omega) [gA, wrap_i64, wrap_u64, wrap_u32, Int.tdiv_eq_ediv_of_nonneg, Int.tmod_eq_emod_of_nonneg]
  refine hK _ (W.liveK [4] fun K2 hK2 => ?_); clear hK K; simp; refine hK2 _ ?_; clear hK2 K2
  refine W.ret ?_
  simp [go]
theorem Z_small {c : Int} (h : c.natAbs < 1000) : Z c := Nat.lt_of_le_of_lt (sz_le (k := 10) (by decide) (by show _ < 1024; omega)) (by decide)
theorem wakes6_ret : Ret env.P 32 [] (.bool true) := by
  have hb : ∀ (x : List Int) (n : Nat), (∀ c ∈ x, c.natAbs < 1000) → x.length ≤ n → Bd LL 1 n x := fun x n h1 h2 => ⟨h2, fun c hc => sz_le hLL (by have := h1 c hc; show _ < 4294967296 ^ 1; omega)⟩
  have o1 := pOf_ret [0, 0, 1] (by simp) (by simp)
  have o2 := pOf_ret [-1, 2] (by simp) (by simp)
  have o3 := qOf_ret [1] (by simp) (by simp)
  rw [show cutR [0, 0, 1] = [0, 0, 1] by decide] at o1
  rw [show cutR [-1, 2] = [-1, 2] by decide] at o2
  rw [show cutR [1] = [1] by decide] at o3
  have b1 := hb [0, 0, 1] 3 (by simp) (by simp)
  have b2 := hb [-1, 2] 3 (by simp) (by simp)
  have hR := Rest_ret ([0, 0, 1].map rw') ([-1, 2].map rw') (s := 1) (s' := 1) (N := 3) (PB.of b1 (by decide) (by decide)).pok (PB.of b2 (by decide) (by decide)).pok (by rw [map_gv_rw]; exact b1) (by rw [map_gv_rw]; exact b2) (by decide)
  have e1 : cfs ([0, 0, 1].map rw') = [0, 0, 1] := by rw [cfs, map_gv_rw]; decide
  have e2 : cfs ([-1, 2].map rw') = [-1, 2] := by rw [cfs, map_gv_rw]; decide
  rw [e1, e2, if_neg (by decide), ← Po_eq, ← Po_eq, show rst [0, 0, 1] [-1, 2] = [1] by decide +kernel] at hR
  have hI := is_ret [1] [1] (by simp) (by simp) (by simp; exact Z_small (by decide)) (by simp; exact Z_small (by decide))
  rw [decide_eq_true rfl] at hI
  replace o1 : Ret env.P 62 [.sl [[.int .i64 0], [.int .i64 0], [.int .i64 1]]] (Po [0, 0, 1]) := o1
  replace o2 : Ret env.P 62 [.sl [[.int .i64 (-1)], [.int .i64 2]]] (Po [-1, 2]) := o2
  replace o3 : Ret env.P 63 [.sl [[.int .i64 1]]] (PI [1]) := o3
  clear e1 e2 b1 b2 hb
  generalize [0, 0, 1] = a at *
  generalize [-1, 2] = b at *
  generalize [1] = o at *
  refine ret_of_Wf (E := env) (fun _ => 0) [] Try.func32 rfl (by kernel_rfl) (by kernel_rfl) (show 0 ≤ 19 by decide) (by simp) ?_
  refine W.sreg (fun K hK => ?_); simp (disch := omega) [gA, wrap_i64, wrap_u64, wrap_u32, Int.tdiv_eq_ediv_of_nonneg, Int.tmod_eq_emod_of_nonneg]; refine hK _ (W.liveK [] fun K2 hK2 => ?_); clear hK K; simp; refine hK2 _ ?_; clear hK2 K2
  refine W.sreg (fun K hK => ?_)
  simp (disch := omega) [gA, wrap_i64, wrap_u64, wrap_u32, Int.tdiv_eq_ediv_of_nonneg, Int.tmod_eq_emod_of_nonneg]
  refine callR o1 ?_
  simp (disch := omega) [gA, wrap_i64, wrap_u64, wrap_u32, Int.tdiv_eq_ediv_of_nonneg, Int.tmod_eq_emod_of_nonneg]
  refine callR o2 ?_
  simp (disch := omega) [gA, wrap_i64, wrap_u64, wrap_u32, Int.tdiv_eq_ediv_of_nonneg, Int.tmod_eq_emod_of_nonneg]
  refine callR hR ?_
  simp (disch := omega) [gA, wrap_i64, wrap_u64, wrap_u32, Int.tdiv_eq_ediv_of_nonneg, Int.tmod_eq_emod_of_nonneg]
  refine hK _ (W.liveK [1, 2] fun K2 hK2 => ?_); clear hK K; simp; refine hK2 _ ?_; clear hK2 K2
  refine W.sregJ (fun σ => ∃ (rows : Pm.Rows) (clk : Nat), σ = ⟨fa [(0, .bool true)], rows, clk⟩) (fun K hK => ?_) ?_
  · simp (disch := omega) [gA, wrap_i64, wrap_u64, wrap_u32, Int.tdiv_eq_ediv_of_nonneg, Int.tmod_eq_emod_of_nonneg]
    refine callR o3 ?_
    simp (disch := omega) [gA, wrap_i64, wrap_u64, wrap_u32, Int.tdiv_eq_ediv_of_nonneg, Int.tmod_eq_emod_of_nonneg]
    refine callR hI ?_
    simp (disch := omega) [gA, wrap_i64, wrap_u64, wrap_u32, Int.tdiv_eq_ediv_of_nonneg, Int.tmod_eq_emod_of_nonneg]
    exact hK _ _ (Gh_fa _ [0]) ⟨_, _, rfl⟩
  rintro _ ⟨rows, clk, rfl⟩
  refine W.ret ?_
  simp [go]
end Go.Proofs.Ytjnkpfknmncdmaa
