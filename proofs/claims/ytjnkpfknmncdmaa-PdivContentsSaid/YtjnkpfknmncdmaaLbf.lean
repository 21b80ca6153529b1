import Derived.Test.YtjnkpfknmncdmaaLbe
import Derived.Test.YtjnkpfknmncdmaaMl
import Derived.Test.YtjnkpfknmncdmaaLn
set_option linter.unusedSimpArgs false
set_option linter.unusedVariables false
namespace Go.Proofs.Ytjnkpfknmncdmaa
open Go Pm

theorem div_pos_sign {A B : Int} (hB : 0 < B) (hA : 0 ≤ A) : (A % B = 0 → (-A) / B = -(A / B) ∧ (-A) % B = 0) ∧ (0 < A % B → (-A) / B = -(A / B + 1) ∧ (-A) % B = B - A % B) := by
  have h1 := Int.mul_ediv_add_emod A B
  have h2 := Int.emod_lt_of_pos A hB
  constructor
  · intro h
    refine (Int.ediv_emod_unique hB).2 ⟨?_, by omega, by omega⟩
    rw [Int.mul_neg]; omega
  · intro h
    refine (Int.ediv_emod_unique hB).2 ⟨?_, by omega, by omega⟩
    rw [Int.mul_neg, Int.mul_add]; omega
theorem div_sign (n m : Bool) {A B : Int} (hB : 0 < B) (hA : 0 ≤ A) :
    (¬ (n = true ∧ 0 < A % B) → (if n = true then -A else A) / (if m = true then -B else B) = (if (n != m) = true then -(A / B) else A / B) ∧ (if n = true then -A else A) % (if m = true then -B else B) = A % B) ∧
    (n = true → 0 < A % B → (if n = true then -A else A) / (if m = true then -B else B) = (if (n != m) = true then -(A / B + 1) else A / B + 1) ∧ (if n = true then -A else A) % (if m = true then -B else B) = B - A % B) := by
  obtain ⟨p1, p2⟩ := div_pos_sign hB hA
  have h0 := Int.emod_nonneg A (show B ≠ 0 by omega)
  cases n <;> cases m <;> simp [Int.ediv_neg, Int.emod_neg]
  · exact ⟨fun h => by have := p1 (by omega); exact ⟨this.1, by omega⟩, p2⟩
  · exact ⟨fun h => by have := p1 (by omega); exact ⟨by omega, by omega⟩, fun h => by have := p2 h; exact ⟨by omega, this.2⟩⟩

theorem wAbs_ret (n : Bool) (l : List Int) (h : LOK l) : Ret env.P 57 [IV n l] (I (V 4294967296 l)) := by
  refine ret_of_Wf (E := env) (fun _ => 0) [(0, IV n l)] Try.func57 rfl (by kernel_rfl) (by kernel_rfl) (show 1 ≤ 7 by decide) (by simp) ?_
  refine W.sreg (fun K hK => ?_); simp (disch := omega) [gA, wrap_i64, wrap_u64, wrap_u32, Int.tdiv_eq_ediv_of_nonneg, Int.tmod_eq_emod_of_nonneg]; refine hK _ (W.liveK [1, 2] fun K2 hK2 => ?_); clear hK K; simp; refine hK2 _ ?_; clear hK2 K2
  refine W.sreg (fun K hK => ?_)
  simp (disch := omega) [gA, wrap_i64, wrap_u64, wrap_u32, Int.tdiv_eq_ediv_of_nonneg, Int.tmod_eq_emod_of_nonneg]
  refine callR (Norm_ret l h.len h.lim) ?_
  simp (disch := omega) [gA, wrap_i64, wrap_u64, wrap_u32, Int.tdiv_eq_ediv_of_nonneg, Int.tmod_eq_emod_of_nonneg]
  refine callR (made_ret _ (V_pos h) false) ?_
  simp (disch := omega) [gA, wrap_i64, wrap_u64, wrap_u32, Int.tdiv_eq_ediv_of_nonneg, Int.tmod_eq_emod_of_nonneg]
  refine hK _ (W.liveK [2] fun K2 hK2 => ?_); clear hK K; simp; refine hK2 _ ?_; clear hK2 K2
  refine W.ret ?_
  simp [go]
theorem Sign_ret (n : Bool) (l : List Int) : Ret env.P 53 [IV n l] (.int .i64 (if l.length = 0 then 0 else if n = true then -1 else 1)) := by
  refine ret_of_Wf (E := env) (fun _ => 0) [(0, IV n l)] Try.func53 rfl (by kernel_rfl) (by kernel_rfl) (show 1 ≤ 11 by decide) (by simp) ?_
  refine W.sreg (fun K hK => ?_); simp (disch := omega) [gA, wrap_i64, wrap_u64, wrap_u32, Int.tdiv_eq_ediv_of_nonneg, Int.tmod_eq_emod_of_nonneg]; refine hK _ (W.liveK [1] fun K2 hK2 => ?_); clear hK K; simp; refine hK2 _ ?_; clear hK2 K2
  refine W.seq ?_
  refine W.block ?_   -- block 0
  refine W.sreg (fun K hK => ?_); simp (disch := omega) [gA, wrap_i64, wrap_u64, wrap_u32, Int.tdiv_eq_ediv_of_nonneg, Int.tmod_eq_emod_of_nonneg]; refine hK _ (W.liveK [1, 3] fun K2 hK2 => ?_); clear hK K; simp; refine hK2 _ ?_; clear hK2 K2
  refine W.cond ⟨_, rfl, fun h => ?_, fun h => ?_⟩   -- t3
  · have h : l = [] := by simp at h; exact h
    subst h
    refine W.sreg (fun K hK => ?_); simp (disch := omega) [gA, wrap_i64, wrap_u64, wrap_u32, Int.tdiv_eq_ediv_of_nonneg, Int.tmod_eq_emod_of_nonneg]; refine hK _ (W.liveK [2] fun K2 hK2 => ?_); clear hK K; simp; refine hK2 _ ?_; clear hK2 K2
    refine W.ret ?_
    simp [go]
  · have h : l.length ≠ 0 := by simp at h; simpa using h
    rw [if_neg h]
    refine W.sreg (fun K hK => ?_); simp (disch := omega) [gA, wrap_i64, wrap_u64, wrap_u32, Int.tdiv_eq_ediv_of_nonneg, Int.tmod_eq_emod_of_nonneg]; refine hK _ (W.liveK [8] fun K2 hK2 => ?_); clear hK K; simp; refine hK2 _ ?_; clear hK2 K2
    refine W.cond ⟨_, rfl, fun h => ?_, fun h => ?_⟩   -- t8
    · subst h
      refine W.sreg (fun K hK => ?_); simp (disch := omega) [gA, wrap_i64, wrap_u64, wrap_u32, Int.tdiv_eq_ediv_of_nonneg, Int.tmod_eq_emod_of_nonneg]; refine hK _ (W.liveK [2] fun K2 hK2 => ?_); clear hK K; simp; refine hK2 _ ?_; clear hK2 K2
      refine W.ret ?_
      simp [go]
    · subst h
      refine W.skip ?_
      refine W.sreg (fun K hK => ?_); simp (disch := omega) [gA, wrap_i64, wrap_u64, wrap_u32, Int.tdiv_eq_ediv_of_nonneg, Int.tmod_eq_emod_of_nonneg]; refine hK _ (W.liveK [2] fun K2 hK2 => ?_); clear hK K; simp; refine hK2 _ ?_; clear hK2 K2
      refine W.ret ?_
      simp [go]
theorem Deg_ret (p : RP) (hp : p.length < 9223372036854775808) : Ret env.P 76 [Pg p] (.int .i64 ((p.length : Int) - 1)) := by
  refine ret_of_Wf (E := env) (fun _ => 0) [(0, Pg p)] Try.func76 rfl (by kernel_rfl) (by kernel_rfl) (show 1 ≤ 6 by decide) (by simp) ?_
  refine W.sreg (fun K hK => ?_); simp (disch := omega) [gA, wrap_i64, wrap_u64, wrap_u32, Int.tdiv_eq_ediv_of_nonneg, Int.tmod_eq_emod_of_nonneg]; refine hK _ (W.liveK [0] fun K2 hK2 => ?_); clear hK K; simp; refine hK2 _ ?_; clear hK2 K2
  refine W.sreg (fun K hK => ?_); simp (disch := omega) [gA, wrap_i64, wrap_u64, wrap_u32, Int.tdiv_eq_ediv_of_nonneg, Int.tmod_eq_emod_of_nonneg]; refine hK _ (W.liveK [2] fun K2 hK2 => ?_); clear hK K; simp; refine hK2 _ ?_; clear hK2 K2
  refine W.ret ?_
  simp [go]
theorem Lead_ret (p : RP) (h : POK p) : Ret env.P 52 [Pg p] (I (lead (cfs p))) := by
  have hl := h.len
  have hcl := cutR_len (p.map gv)
  rw [List.length_map] at hcl
  refine ret_of_Wf (E := env) (fun _ => 0) [(0, Pg p)] Try.func52 rfl (by kernel_rfl) (by kernel_rfl) (show 1 ≤ 15 by decide) (by simp) ?_
  refine W.sreg (fun K hK => ?_); simp (disch := omega) [gA, wrap_i64, wrap_u64, wrap_u32, Int.tdiv_eq_ediv_of_nonneg, Int.tmod_eq_emod_of_nonneg]; refine hK _ (W.liveK [0, 2] fun K2 hK2 => ?_); clear hK K; simp; refine hK2 _ ?_; clear hK2 K2
  refine W.seq ?_
  refine W.sreg (fun K hK => ?_)
  simp (disch := omega) [gA, wrap_i64, wrap_u64, wrap_u32, Int.tdiv_eq_ediv_of_nonneg, Int.tmod_eq_emod_of_nonneg]
  refine callR (pNorm_ret p h) ?_
  simp (disch := omega) [gA, wrap_i64, wrap_u64, wrap_u32, Int.tdiv_eq_ediv_of_nonneg, Int.tmod_eq_emod_of_nonneg]
  refine hK _ (W.liveK [0, 2] fun K2 hK2 => ?_); clear hK K; simp; refine hK2 _ ?_; clear hK2 K2
  rw [show cutR (p.map gv) = cfs p from rfl] at hcl ⊢
  generalize cfs p = x at *
  refine W.sreg (fun K hK => ?_); simp (disch := omega) [gA, wrap_i64, wrap_u64, wrap_u32, Int.tdiv_eq_ediv_of_nonneg, Int.tmod_eq_emod_of_nonneg]; refine hK _ (W.liveK [0, 2, 7] fun K2 hK2 => ?_); clear hK K; simp; refine hK2 _ ?_; clear hK2 K2
  refine W.cond ⟨_, rfl, fun h => ?_, fun h => ?_⟩   -- t7
  · have h : x = [] := by simp at h; exact h
    subst h
    refine W.sreg (fun K hK => ?_); simp (disch := omega) [gA, wrap_i64, wrap_u64, wrap_u32, Int.tdiv_eq_ediv_of_nonneg, Int.tmod_eq_emod_of_nonneg]; refine hK _ (W.liveK [2] fun K2 hK2 => ?_); clear hK K; simp; refine hK2 _ ?_; clear hK2 K2
    refine W.ret ?_
    simp [go]
    exact ⟨Int.le_refl 0, rfl⟩
  · have h : x ≠ [] := by simp at h; exact h
    have hx0 : 0 < x.length := List.length_pos_iff.2 h
    refine W.skip ?_
    have e1 : ((x.length : Int) - 1).toNat = x.length - 1 := by omega
    refine W.sreg (fun K hK => ?_); simp (disch := omega) [gA, wrap_i64, wrap_u64, wrap_u32, Int.tdiv_eq_ediv_of_nonneg, Int.tmod_eq_emod_of_nonneg, e1]; refine hK _ (W.liveK [2] fun K2 hK2 => ?_); clear hK K; simp; refine hK2 _ ?_; clear hK2 K2
    refine W.ret ?_
    simp [go, lead]

theorem sz_of_lt {x : Int} {k : Nat} (h0 : 0 ≤ x) (h : x < 4294967296 ^ k) : sz LL x ≤ k := sz_le hLL (by
  have e : ((4294967296 ^ k : Nat) : Int) = (4294967296 : Int) ^ k := Int.natCast_pow 4294967296 k
  show x.natAbs < 4294967296 ^ k
  omega)
theorem dig_lok {x : Int} {k : Nat} (h0 : 0 ≤ x) (h : sz LL x ≤ k) (hk : k < 1099511627776) : LOK (dig LL x.toNat) := ⟨Lim_dig hLL _, by
  have e : x.natAbs = x.toNat := by omega
  unfold sz at h
  rw [e] at h
  omega⟩
theorem V_digI {x : Int} (h0 : 0 ≤ x) : V 4294967296 (dig LL x.toNat) = x := by
  have := V_dig hLL x.toNat
  rw [show ((LL : Nat) : Int) = 4294967296 from rfl] at this
  rw [this]; omega
theorem dig_pos {x : Int} (h0 : 0 ≤ x) : (0 < (dig LL x.toNat).length) ↔ 0 < x := by
  rw [List.length_pos_iff, Ne, dig_eq_nil hLL]; omega

theorem wDivMod_ret (n m : Bool) (l k : List Int) (hlo : LOK l) (h' : LOK k) (hl : l.length < 1099511627774) (hk : k.length < 1099511627774) :
    Ret env.P 121 [IV n l, IV m k] (if V 4294967296 k = 0 then .tup [I 0, I 0, .int .i64 2] else .tup [I (iv n l / iv m k), I (iv n l % iv m k), .int .i64 0]) := by
  have p1 := V_pos hlo
  have p2 := V_pos h'
  refine ret_of_Wf (E := env) (fun _ => 0) [(0, IV n l), (1, IV m k)] Try.func121 rfl (by kernel_rfl) (by kernel_rfl) (show 2 ≤ 60 by decide) (by simp) ?_
  refine W.sreg (fun K hK => ?_); simp (disch := omega) [gA, wrap_i64, wrap_u64, wrap_u32, Int.tdiv_eq_ediv_of_nonneg, Int.tmod_eq_emod_of_nonneg]; refine hK _ (W.liveK [2, 3, 4, 5] fun K2 hK2 => ?_); clear hK K; simp; refine hK2 _ ?_; clear hK2 K2
  by_cases h0 : V 4294967296 k = 0
  · rw [if_pos h0]
    refine W.sreg (fun K hK => ?_)
    simp (disch := omega) [gA, wrap_i64, wrap_u64, wrap_u32, Int.tdiv_eq_ediv_of_nonneg, Int.tmod_eq_emod_of_nonneg]
    refine callR (DivMod_ret0 l k hlo h' h0) ?_
    simp (disch := omega) [gA, wrap_i64, wrap_u64, wrap_u32, Int.tdiv_eq_ediv_of_nonneg, Int.tmod_eq_emod_of_nonneg]
    refine hK _ (W.liveK [2, 3, 4, 5, 6, 7, 8] fun K2 hK2 => ?_); clear hK K; simp; refine hK2 _ ?_; clear hK2 K2
    refine W.seq ?_
    refine W.sreg (fun K hK => ?_); simp (disch := omega) [gA, wrap_i64, wrap_u64, wrap_u32, Int.tdiv_eq_ediv_of_nonneg, Int.tmod_eq_emod_of_nonneg]; refine hK _ (W.liveK [2, 3, 4, 5, 6, 7, 8, 19] fun K2 hK2 => ?_); clear hK K; simp; refine hK2 _ ?_; clear hK2 K2
    refine W.cond ⟨_, rfl, fun h => ?_, fun h => ?_⟩   -- t19
    · refine W.sreg (fun K hK => ?_); simp (disch := omega) [gA, wrap_i64, wrap_u64, wrap_u32, Int.tdiv_eq_ediv_of_nonneg, Int.tmod_eq_emod_of_nonneg]; refine hK _ (W.liveK [4, 5, 6] fun K2 hK2 => ?_); clear hK K; simp; refine hK2 _ ?_; clear hK2 K2
      refine W.ret ?_
      simp [go]
      rfl
    · cases h
  · rw [if_neg h0]
    have hB : 0 < V 4294967296 k := by omega
    have hdm := DivMod_ret l k hlo h' h0 hl hk
    obtain ⟨d1, d2⟩ := div_sign n m hB p1
    rw [show (if n = true then -V 4294967296 l else V 4294967296 l) = iv n l from rfl, show (if m = true then -V 4294967296 k else V 4294967296 k) = iv m k from rfl] at d1 d2
    have q0 := Int.ediv_nonneg p1 p2
    have r0 := Int.emod_nonneg (V 4294967296 l) h0
    have r1 := Int.emod_lt_of_pos (V 4294967296 l) hB
    have hsz : sz LL (V 4294967296 l / V 4294967296 k) ≤ l.length := sz_of_lt q0 (Int.lt_of_le_of_lt (Int.ediv_le_self _ p1) (V_lt (by decide) hlo.lim))
    have hszr : sz LL (V 4294967296 l % V 4294967296 k) ≤ k.length := sz_of_lt r0 (Int.lt_trans r1 (V_lt (by decide) h'.lim))
    refine W.sreg (fun K hK => ?_)
    simp (disch := omega) [gA, wrap_i64, wrap_u64, wrap_u32, Int.tdiv_eq_ediv_of_nonneg, Int.tmod_eq_emod_of_nonneg]
    refine callR hdm ?_
    simp (disch := omega) [gA, wrap_i64, wrap_u64, wrap_u32, Int.tdiv_eq_ediv_of_nonneg, Int.tmod_eq_emod_of_nonneg]
    refine hK _ (W.liveK [2, 3, 4, 5, 6, 7, 8] fun K2 hK2 => ?_); clear hK K; simp; refine hK2 _ ?_; clear hK2 K2
    generalize V 4294967296 l / V 4294967296 k = Q at *
    generalize V 4294967296 l % V 4294967296 k = R at *
    refine W.seq ?_
    refine W.sreg (fun K hK => ?_); simp (disch := omega) [gA, wrap_i64, wrap_u64, wrap_u32, Int.tdiv_eq_ediv_of_nonneg, Int.tmod_eq_emod_of_nonneg]; refine hK _ (W.liveK [2, 3, 4, 5, 6, 7, 8, 19] fun K2 hK2 => ?_); clear hK K; simp; refine hK2 _ ?_; clear hK2 K2
    refine W.cond ⟨_, rfl, fun h => ?_, fun h => ?_⟩   -- t19
    · cases h
    refine W.skip ?_
    refine W.sreg (fun K hK => ?_)
    simp (disch := omega) [gA, wrap_i64, wrap_u64, wrap_u32, Int.tdiv_eq_ediv_of_nonneg, Int.tmod_eq_emod_of_nonneg]
    refine callR (made_ret Q q0 (n != m)) ?_
    simp (disch := omega) [gA, wrap_i64, wrap_u64, wrap_u32, Int.tdiv_eq_ediv_of_nonneg, Int.tmod_eq_emod_of_nonneg]
    refine callR (made_ret R r0 false) ?_
    simp (disch := omega) [gA, wrap_i64, wrap_u64, wrap_u32, Int.tdiv_eq_ediv_of_nonneg, Int.tmod_eq_emod_of_nonneg]
    refine hK _ (W.liveK [2, 3, 4, 5, 7, 8] fun K2 hK2 => ?_); clear hK K; simp; refine hK2 _ ?_; clear hK2 K2
    refine W.seqJ (fun σ => ∃ (rows : Pm.Rows) (clk : Nat), σ = ⟨fa [(4, .ptr 4 2 0 0), (5, .ptr 5 3 0 0)], rows, clk⟩ ∧ rows 4 = some ⟨2, 68, 2, [ie (iv n l / iv m k)]⟩ ∧ rows 5 = some ⟨3, 68, 2, [ie (iv n l % iv m k)]⟩) ?_ ?_
    ·
      by_cases hadj : n = true ∧ 0 < R
      · obtain ⟨rfl, hR⟩ := hadj
        obtain ⟨e1, e2⟩ := d2 rfl hR
        rw [e1, e2]
        have hdp := (dig_pos r0).2 hR
        have hQl := dig_lok q0 hsz hlo.len
        have hRl := dig_lok r0 hszr h'.len
        have hadd := Add_ret (dig LL Q.toNat) [1] hQl.len (by simp) hQl.lim (Lim.cons.2 ⟨by decide, Lim.nil⟩)
        rw [V_digI q0, V_one] at hadd
        have hsub := Sub_ret k (dig LL R.toNat) h'.len hRl.len h'.lim hRl.lim
        rw [V_digI r0, subR, if_neg (by omega)] at hsub
        refine W.sregJ (fun σ => ∃ (rows : Pm.Rows) (clk : Nat), σ = ⟨fa [(2, .ptr 2 0 0 0), (3, .ptr 3 1 0 0), (4, .ptr 4 2 0 0), (5, .ptr 5 3 0 0), (7, N Q), (8, N R), (38, .bool true)], rows, clk⟩ ∧ rows 2 = some ⟨0, 68, 2, [[.bool true, us l]]⟩ ∧ rows 3 = some ⟨1, 68, 2, [[.bool m, us k]]⟩ ∧ rows 4 = some ⟨2, 68, 2, [ie (if true = m then Q else -Q)]⟩ ∧ rows 5 = some ⟨3, 68, 2, [ie R]⟩) (fun K hK => ?_) ?_
        · simp (disch := omega) [gA, wrap_i64, wrap_u64, wrap_u32, Int.tdiv_eq_ediv_of_nonneg, Int.tmod_eq_emod_of_nonneg, hdp]
          exact hK _ _ (Gh_fa _ [2, 3, 4, 5, 7, 8, 38]) ⟨_, _, rfl, by simp, by simp, by simp, by simp⟩
        rintro _ ⟨rows, clk, rfl, hr2, hr3, hr4, hr5⟩
        refine W.cond ⟨_, rfl, fun h => ?_, fun h => ?_⟩   -- t38
        · refine W.sreg (fun K hK => ?_)
          simp (disch := omega) [gA, wrap_i64, wrap_u64, wrap_u32, Int.tdiv_eq_ediv_of_nonneg, Int.tmod_eq_emod_of_nonneg]
          refine callR hadd ?_
          simp (disch := omega) [gA, wrap_i64, wrap_u64, wrap_u32, Int.tdiv_eq_ediv_of_nonneg, Int.tmod_eq_emod_of_nonneg]
          refine hK _ (W.liveK [2, 3, 4, 5, 7, 8] fun K2 hK2 => ?_); clear hK K; simp; refine hK2 _ ?_; clear hK2 K2
          refine W.sreg (fun K hK => ?_)
          simp (disch := omega) [gA, wrap_i64, wrap_u64, wrap_u32, Int.tdiv_eq_ediv_of_nonneg, Int.tmod_eq_emod_of_nonneg, hr3]
          refine callR hsub ?_
          simp (disch := omega) [gA, wrap_i64, wrap_u64, wrap_u32, Int.tdiv_eq_ediv_of_nonneg, Int.tmod_eq_emod_of_nonneg]
          refine hK _ (W.liveK [2, 3, 4, 5, 7, 8] fun K2 hK2 => ?_); clear hK K; simp; refine hK2 _ ?_; clear hK2 K2
          refine W.reg (fun K hK => ?_)
          simp (disch := omega) [gA, wrap_i64, wrap_u64, wrap_u32, Int.tdiv_eq_ediv_of_nonneg, Int.tmod_eq_emod_of_nonneg, hr2, hr3]
          refine callR (made_ret (Q + 1) (by omega) (!m)) ?_
          simp (disch := omega) [gA, wrap_i64, wrap_u64, wrap_u32, Int.tdiv_eq_ediv_of_nonneg, Int.tmod_eq_emod_of_nonneg]
          refine callR (made_ret (V 4294967296 k - R) (by omega) false) ?_
          simp (disch := omega) [gA, wrap_i64, wrap_u64, wrap_u32, Int.tdiv_eq_ediv_of_nonneg, Int.tmod_eq_emod_of_nonneg, hr4, hr5]
          exact hK _ ⟨_, Gh_fa _ [4, 5], _, _, rfl, by cases m <;> simp, by simp⟩
        · cases h
      · obtain ⟨e1, e2⟩ := d1 hadj
        rw [e1, e2]
        refine W.sregJ (fun σ => ∃ (rows : Pm.Rows) (clk : Nat), σ = ⟨fa [(4, .ptr 4 2 0 0), (5, .ptr 5 3 0 0), (38, .bool false)], rows, clk⟩ ∧ rows 4 = some ⟨2, 68, 2, [ie (if (n != m) = true then -Q else Q)]⟩ ∧ rows 5 = some ⟨3, 68, 2, [ie R]⟩) (fun K hK => ?_) ?_
        · cases n with
          | false =>
            simp (disch := omega) [gA, wrap_i64, wrap_u64, wrap_u32, Int.tdiv_eq_ediv_of_nonneg, Int.tmod_eq_emod_of_nonneg]
            exact hK _ _ (Gh_fa _ [4, 5, 38]) ⟨_, _, rfl, by cases m <;> simp, by simp⟩
          | true =>
            have hR : R = 0 := by simp at hadj; omega
            subst hR
            simp (disch := omega) [gA, wrap_i64, wrap_u64, wrap_u32, Int.tdiv_eq_ediv_of_nonneg, Int.tmod_eq_emod_of_nonneg]
            exact hK _ _ (Gh_fa _ [4, 5, 38]) ⟨_, _, rfl, by cases m <;> simp, by simp⟩
        rintro _ ⟨rows, clk, rfl, hr4, hr5⟩
        refine W.cond ⟨_, rfl, fun h => ?_, fun h => ?_⟩   -- t38
        · cases h
        · refine W.skip ?_
          exact ⟨_, Gh_fa _ [4, 5], _, _, rfl, hr4, hr5⟩
    rintro _ ⟨rows, clk, rfl, hr4, hr5⟩
    generalize iv n l / iv m k = q at *
    generalize iv n l % iv m k = r at *
    refine W.sdrw (fun K hK => ?_)
    simp (disch := omega) [gA, wrap_i64, wrap_u64, wrap_u32, Int.tdiv_eq_ediv_of_nonneg, Int.tmod_eq_emod_of_nonneg, hr4, hr5]
    refine stepTxt (by kernel_rfl) ?_
    simp (disch := omega) [gA, wrap_i64, wrap_u64, wrap_u32, Int.tdiv_eq_ediv_of_nonneg, Int.tmod_eq_emod_of_nonneg, hr4, hr5]
    rw [if_pos (by kernel_rfl)]
    simp (disch := omega) [gA, wrap_i64, wrap_u64, wrap_u32, Int.tdiv_eq_ediv_of_nonneg, Int.tmod_eq_emod_of_nonneg, hr4, hr5]
    refine stepTxt (by kernel_rfl) ?_
    simp (disch := omega) [gA, wrap_i64, wrap_u64, wrap_u32, Int.tdiv_eq_ediv_of_nonneg, Int.tmod_eq_emod_of_nonneg]
    refine hK _ (W.liveK [4, 5, 6] fun K2 hK2 => ?_); clear hK K; simp; refine hK2 _ ?_; clear hK2 K2
    refine W.ret ?_
    simp [go]
end Go.Proofs.Ytjnkpfknmncdmaa
