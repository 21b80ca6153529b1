import Derived.Test.YtjnkpfknmncdmaaLbi
import Derived.Test.YtjnkpfknmncdmaaLx
import Derived.Test.YtjnkpfknmncdmaaLin
set_option linter.unusedSimpArgs false
set_option linter.unusedVariables false
namespace Go.Proofs.Ytjnkpfknmncdmaa
open Go Pm

/-- The coefficients without a common divisor. -/
def prim (x : List Int) : List Int := cutR (x.map (exq (gcdL x)))
/-- The remainder's shape. -/
def rst (a b : List Int) : List Int := if psk a b % 2 = 1 ∧ lead b < 0 then prim (pneg (pdm a b).2) else prim (pdm a b).2
theorem gcdL_dvd (x : List Int) : ∀ c ∈ x, ((gcdL x : Nat) : Int) ∣ c := by
  have key : ∀ (l : List Int) (g : Nat), (∀ c ∈ l, ((l.foldl (fun g c => Nat.gcd g c.natAbs) g : Nat) : Int) ∣ c) ∧ l.foldl (fun g c => Nat.gcd g c.natAbs) g ∣ g := by
    intro l
    induction l with
    | nil => intro g; exact ⟨fun c hc => (by cases hc), Nat.dvd_refl _⟩
    | cons c l ih =>
      intro g
      obtain ⟨h1, h2⟩ := ih (Nat.gcd g c.natAbs)
      simp only [List.foldl_cons]
      refine ⟨fun d hd => ?_, Nat.dvd_trans h2 (Nat.gcd_dvd_left _ _)⟩
      rcases List.mem_cons.1 hd with rfl | hd
      · exact Int.ofNat_dvd_left.2 (Nat.dvd_trans h2 (Nat.gcd_dvd_right _ _))
      · exact h1 d hd
  exact (key x 0).1
theorem gcdL_pos {x : List Int} {c : Int} (hc : c ∈ x) (h : c ≠ 0) : gcdL x ≠ 0 := by
  intro h0
  have := gcdL_dvd x c hc
  rw [h0] at this
  obtain ⟨k, hk⟩ := this
  simp at hk
  exact h hk
theorem gcdL_Cn_pos {x : List Int} (hc : Cn x) (h : x ≠ []) : gcdL x ≠ 0 := by
  have hl : 0 < x.length := List.length_pos_iff.2 h
  exact gcdL_pos (c := lead x) (nth_mem (by omega)) (lead_ne hc hl)
theorem gcdL_sz {x : List Int} {s : Nat} (hx : ∀ c ∈ x, sz LL c ≤ s) (hc : Cn x) (h : x ≠ []) : sz LL (gcdL x : Int) ≤ s := by
  have hl : 0 < x.length := List.length_pos_iff.2 h
  have hm : lead x ∈ x := nth_mem (by omega)
  refine Nat.le_trans (sz_mono hLL ?_) (hx _ hm)
  have := Int.le_of_dvd (a := (gcdL x : Int)) (b := ((lead x).natAbs : Int)) (by have := lead_ne hc hl; omega) (Int.dvd_natAbs.2 (gcdL_dvd x _ hm))
  omega

theorem ContentI_ret (x : List Int) (hx : PD x) : Ret env.P 46 [.sl [[Po x]]] (I (gcdL x)) := by
  have hl := hx.len
  have := Content_ret [x.map rw'] 1099511627773 (by decide) (fun p hp c hc => by
    simp only [List.mem_singleton] at hp
    subst hp
    simp only [List.mem_map] at hc
    obtain ⟨v, hv, rfl⟩ := hc
    have h1 := hx.sz v hv
    exact ⟨Lim_dig hLL _, by unfold sz at h1; show (dig LL v.natAbs).length ≤ _; omega⟩) (by simp) (by simp; omega)
  have e : ([x.map rw'].flatten.map gv) = x := by simp only [List.flatten_cons, List.flatten_nil, List.append_nil, map_gv_rw]
  rw [e] at this
  have e2 : sls pe [x.map rw'] = .sl [[Po x]] := by rw [Po_eq]; rfl
  rw [e2] at this
  exact this

theorem Rest_ret (a b : RP) {s s' N : Nat} (ha : POK a) (hb : POK b) (sa : Bd LL s N (a.map gv)) (sb : Bd LL s' N (b.map gv)) (hB : s + N * (s' + N + 1) + s' + N + N + 10 < 1099511627774) :
    Ret env.P 36 [Pg a, Pg b] (if cfs b = [] then .tup [Po [], .int .i64 2] else .tup [Po (rst (cfs a) (cfs b)), .int .i64 0]) := by
  have hP := Pseudo_ret a b ha hb sa sb hB
  have hL := Lead_ret b hb
  have hA : Bd LL s N (cfs a) := sa.cut
  have hBb : Bd LL s' N (cfs b) := sb.cut
  have ca : Cn (cfs a) := Cn.cut _
  refine ret_of_Wf (E := env) (fun _ => 0) [(0, Pg a), (1, Pg b)] Try.func36 rfl (by kernel_rfl) (by kernel_rfl) (show 2 ≤ 39 by decide) (by simp) ?_
  generalize cfs a = x at *
  generalize cfs b = y at *
  refine W.sreg (fun K hK => ?_); simp (disch := omega) [gA, wrap_i64, wrap_u64, wrap_u32, Int.tdiv_eq_ediv_of_nonneg, Int.tmod_eq_emod_of_nonneg]; refine hK _ (W.liveK [0, 1] fun K2 hK2 => ?_); clear hK K; simp; refine hK2 _ ?_; clear hK2 K2
  by_cases hy : y = []
  · rw [if_pos hy] at hP ⊢
    refine W.sreg (fun K hK => ?_)
    simp (disch := omega) [gA, wrap_i64, wrap_u64, wrap_u32, Int.tdiv_eq_ediv_of_nonneg, Int.tmod_eq_emod_of_nonneg]
    refine callR hP ?_
    simp (disch := omega) [gA, wrap_i64, wrap_u64, wrap_u32, Int.tdiv_eq_ediv_of_nonneg, Int.tmod_eq_emod_of_nonneg]
    refine hK _ (W.liveK [1, 7, 8, 9] fun K2 hK2 => ?_); clear hK K; simp; refine hK2 _ ?_; clear hK2 K2
    refine W.seq ?_
    refine W.sreg (fun K hK => ?_); simp (disch := omega) [gA, wrap_i64, wrap_u64, wrap_u32, Int.tdiv_eq_ediv_of_nonneg, Int.tmod_eq_emod_of_nonneg]; refine hK _ (W.liveK [1, 7, 8, 9, 19] fun K2 hK2 => ?_); clear hK K; simp; refine hK2 _ ?_; clear hK2 K2
    refine W.cond ⟨_, rfl, fun h => ?_, fun h => ?_⟩   -- t19
    · refine W.sreg (fun K hK => ?_); simp (disch := omega) [gA, wrap_i64, wrap_u64, wrap_u32, Int.tdiv_eq_ediv_of_nonneg, Int.tmod_eq_emod_of_nonneg]; refine hK _ (W.liveK [4, 5] fun K2 hK2 => ?_); clear hK K; simp; refine hK2 _ ?_; clear hK2 K2
      refine W.ret ?_
      simp [go]
      rfl
    · cases h
  rw [if_neg hy] at hP ⊢
  have hy0 : 0 < y.length := List.length_pos_iff.2 hy
  have hkN : psk x y ≤ N := by unfold psk; have := hA.len; omega
  obtain ⟨_, hb2⟩ := ps_bd hLL hBb (psk x y) s [] x hkN ⟨by simp, fun c hc => by cases hc⟩ (hA.mono (by omega) (by omega))
  obtain ⟨_, cr⟩ := pdm_Cn (b := y) ca
  rw [show (ps y (lead y) (psk x y) [] x) = pdm x y from rfl] at hb2
  have hmul := Nat.mul_le_mul_right (s' + N + 1) hkN
  have hneg := pNegI_ret (PB.of hb2 (by omega) (by omega))
  refine W.sreg (fun K hK => ?_)
  simp (disch := omega) [gA, wrap_i64, wrap_u64, wrap_u32, Int.tdiv_eq_ediv_of_nonneg, Int.tmod_eq_emod_of_nonneg]
  refine callR hP ?_
  simp (disch := omega) [gA, wrap_i64, wrap_u64, wrap_u32, Int.tdiv_eq_ediv_of_nonneg, Int.tmod_eq_emod_of_nonneg]
  refine hK _ (W.liveK [1, 7, 8, 9] fun K2 hK2 => ?_); clear hK K; simp; refine hK2 _ ?_; clear hK2 K2
  refine W.seq ?_
  refine W.sreg (fun K hK => ?_); simp (disch := omega) [gA, wrap_i64, wrap_u64, wrap_u32, Int.tdiv_eq_ediv_of_nonneg, Int.tmod_eq_emod_of_nonneg]; refine hK _ (W.liveK [1, 7, 8, 9, 19] fun K2 hK2 => ?_); clear hK K; simp; refine hK2 _ ?_; clear hK2 K2
  refine W.cond ⟨_, rfl, fun h => ?_, fun h => ?_⟩   -- t19
  · cases h
  refine W.skip ?_
  obtain ⟨r2, hr2⟩ : ∃ r2, r2 = if psk x y % 2 = 1 ∧ lead y < 0 then pneg (pdm x y).2 else (pdm x y).2 := ⟨_, rfl⟩
  have hrst : rst x y = prim r2 := by rw [hr2, rst]; split <;> rfl
  have hbr : PD r2 := by
    rw [hr2]; split
    · exact PD.of hb2.pneg (by omega) (by omega)
    · exact PD.of hb2 (by omega) (by omega)
  have hcr : Cn r2 := by
    rw [hr2]; split
    · exact Cn.pneg _
    · exact cr
  rw [hrst]
  refine W.seqJ (fun σ => ∃ (rows : Pm.Rows) (clk : Nat), σ = ⟨fa [(7, Po r2)], rows, clk⟩) ?_ ?_
  ·
    by_cases hk : psk x y % 2 = 1
    · refine W.sregJ (fun σ => ∃ (rows : Pm.Rows) (clk : Nat), σ = ⟨fa [(7, Po (pdm x y).2), (28, .bool (decide (lead y < 0)))], rows, clk⟩) (fun K hK => ?_) ?_
      · have hk' : (psk x y : Int) % 2 = 1 := by omega
        simp (disch := omega) [gA, wrap_i64, wrap_u64, wrap_u32, Int.tdiv_eq_ediv_of_nonneg, Int.tmod_eq_emod_of_nonneg, hk']
        refine callR hL ?_
        simp (disch := omega) [gA, wrap_i64, wrap_u64, wrap_u32, Int.tdiv_eq_ediv_of_nonneg, Int.tmod_eq_emod_of_nonneg]
        exact hK _ _ (Gh_fa _ [7, 28]) ⟨_, _, rfl⟩
      rintro _ ⟨rows, clk, rfl⟩
      refine W.condB (lead y < 0) rfl (fun h => ?_) (fun h => ?_)   -- t28
      · rw [if_pos ⟨hk, h⟩] at hr2
        subst hr2
        refine W.reg (fun K hK => ?_)
        simp (disch := omega) [gA, wrap_i64, wrap_u64, wrap_u32, Int.tdiv_eq_ediv_of_nonneg, Int.tmod_eq_emod_of_nonneg]
        refine callR hneg ?_
        simp (disch := omega) [gA, wrap_i64, wrap_u64, wrap_u32, Int.tdiv_eq_ediv_of_nonneg, Int.tmod_eq_emod_of_nonneg]
        exact hK _ ⟨_, Gh_fa _ [7], _, _, rfl⟩
      · rw [if_neg (fun h2 => h h2.2)] at hr2
        subst hr2
        refine W.skip ?_
        exact ⟨_, Gh_fa _ [7], _, _, rfl⟩
    · rw [if_neg (fun h2 => hk h2.1)] at hr2
      subst hr2
      refine W.sregJ (fun σ => ∃ (rows : Pm.Rows) (clk : Nat), σ = ⟨fa [(7, Po (pdm x y).2), (28, .bool false)], rows, clk⟩) (fun K hK => ?_) ?_
      · have hk' : ((psk x y : Int) % 2 == 1) = false := by simp; omega
        simp (disch := omega) [gA, wrap_i64, wrap_u64, wrap_u32, Int.tdiv_eq_ediv_of_nonneg, Int.tmod_eq_emod_of_nonneg, hk']
        exact hK _ _ (Gh_fa _ [7, 28]) ⟨_, _, rfl⟩
      rintro _ ⟨rows, clk, rfl⟩
      refine W.cond ⟨_, rfl, fun h => ?_, fun h => ?_⟩   -- t28
      · cases h
      · refine W.skip ?_
        exact ⟨_, Gh_fa _ [7], _, _, rfl⟩
  rintro _ ⟨rows, clk, rfl⟩
  clear hr2 hrst
  refine W.seq ?_
  refine W.sreg (fun K hK => ?_); simp (disch := omega) [gA, wrap_i64, wrap_u64, wrap_u32, Int.tdiv_eq_ediv_of_nonneg, Int.tmod_eq_emod_of_nonneg]; refine hK _ (W.liveK [7, 33] fun K2 hK2 => ?_); clear hK K; simp; refine hK2 _ ?_; clear hK2 K2
  refine W.cond ⟨_, rfl, fun h => ?_, fun h => ?_⟩   -- t33
  · have h : r2 = [] := by simp at h; exact h
    subst h
    refine W.sreg (fun K hK => ?_); simp (disch := omega) [gA, wrap_i64, wrap_u64, wrap_u32, Int.tdiv_eq_ediv_of_nonneg, Int.tmod_eq_emod_of_nonneg]; refine hK _ (W.liveK [4, 5] fun K2 hK2 => ?_); clear hK K; simp; refine hK2 _ ?_; clear hK2 K2
    refine W.ret ?_
    simp [go]
    rfl
  · have h : r2 ≠ [] := by simp at h; exact h
    have hC := ContentI_ret r2 hbr
    have hgp := gcdL_Cn_pos hcr h
    have hO := over_ret r2 (gcdL r2) hbr (Nat.lt_of_le_of_lt (gcdL_sz (s := 1099511627773) (fun c hc => by have := hbr.sz c hc; omega) hcr h) (by decide)) (by omega)
    rw [show cutR (r2.map (exq (gcdL r2))) = prim r2 from rfl] at hO
    generalize (gcdL r2 : Int) = g at *
    generalize prim r2 = pr at *
    refine W.skip ?_
    refine W.sreg (fun K hK => ?_)
    simp (disch := omega) [gA, wrap_i64, wrap_u64, wrap_u32, Int.tdiv_eq_ediv_of_nonneg, Int.tmod_eq_emod_of_nonneg]
    refine callR hC ?_
    simp (disch := omega) [gA, wrap_i64, wrap_u64, wrap_u32, Int.tdiv_eq_ediv_of_nonneg, Int.tmod_eq_emod_of_nonneg]
    refine callR hO ?_
    simp (disch := omega) [gA, wrap_i64, wrap_u64, wrap_u32, Int.tdiv_eq_ediv_of_nonneg, Int.tmod_eq_emod_of_nonneg]
    refine hK _ (W.liveK [4, 5] fun K2 hK2 => ?_); clear hK K; simp; refine hK2 _ ?_; clear hK2 K2
    refine W.ret ?_
    simp [go]
end Go.Proofs.Ytjnkpfknmncdmaa
