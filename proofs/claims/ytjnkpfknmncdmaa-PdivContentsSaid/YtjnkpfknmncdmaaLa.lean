import Derived.Test.YtjnkpfknmncdmaaEnv
import Derived.Test.YtjnkpfknmncdmaaMe
import Derived.KernelRfl
set_option linter.unusedSimpArgs false
set_option linter.unusedVariables false
namespace Go.Proofs.Ytjnkpfknmncdmaa
open Go Pm

def u32 (n : Int) : List PV := [.int .u32 n]
@[simp] theorem u32_def {n : Int} : u32 n = [.int .u32 n] := rfl
theorem enc_u32 : Enc u32 1 := fun _ => rfl
theorem penc_u32 : PEnc u32 := fun _ => rfl
@[simp] theorem lenAll_u32 {l : List Int} : lenAll 1 (emap u32 l) = True := lenAll_emap enc_u32
@[simp] theorem rowPers_u32 {v e n : Nat} {l : List Int} : rowPers (some ⟨v, e, n, emap u32 l⟩) = True := rowPers_emap penc_u32
@[simp] theorem rep_u32 {n : Nat} : List.replicate n [PV.int .u32 0] = emap u32 (List.replicate n 0) := by simp [emap]
@[simp] theorem setEl_u32 {l : List Int} {i : Nat} {x : Int} : setEl (emap u32 l) i 0 [.int .u32 x] = emap u32 (l.set i x) := by
  simp only [setEl, emap, List.map_set]
  by_cases h : i < l.length
  · simp [h]
  · rw [List.set_eq_of_length_le (by simp; omega), List.set_eq_of_length_le (by simp; omega)]
@[simp] theorem len_emap {α : Type} {g : α → List PV} {l : List α} : (emap g l).length = l.length := by simp [emap]
abbrev us (l : List Int) : PV := sls u32 l
abbrev LL : Nat := 4294967296
/-- A number's limbs, as a value. -/
abbrev N (x : Int) : PV := us (dig LL x.toNat)
theorem hLL : 2 ≤ LL := by decide
theorem N_cut {l : List Int} (h : Lim 4294967296 l) : us (cutR l) = N (V 4294967296 l) := by rw [cutR_dig hLL h]; rfl

theorem cut_ret (l : List Int) (hl : l.length < 17592186044416) : Ret env.P 123 [us l] (us (cutR l)) := by
  refine ret_of_Wf (E := env) (fun _ => 0) [(0, us l)] Try.func123 rfl (by kernel_rfl) (by kernel_rfl) (show 1 ≤ 21 by decide) (by simp) ?_
  refine W.sreg (fun K hK => ?_)
  simp (disch := omega) [gA, wrap_i64, wrap_u64, wrap_u32, Int.tdiv_eq_ediv_of_nonneg, Int.tmod_eq_emod_of_nonneg]
  refine hK _ (W.liveK [0] fun K2 hK2 => ?_); clear hK K; simp; refine hK2 _ ?_; clear hK2 K2
  refine W.sreg (fun K hK => ?_)
  simp (disch := omega) [gA, wrap_i64, wrap_u64, wrap_u32, Int.tdiv_eq_ediv_of_nonneg, Int.tmod_eq_emod_of_nonneg]
  refine hK _ (W.liveK [0, 3] fun K2 hK2 => ?_); clear hK K; simp; refine hK2 _ ?_; clear hK2 K2
  refine W.seq (W.block ?_)
  refine W.loopG (fun k σ => ∃ (rows : Pm.Rows) (clk : Nat), σ = ⟨fa [(0, us l), (3, .int .i64 (k : Int))], rows, clk⟩ ∧ k ≤ l.length ∧ cutR l = cutR (l.take k)) l.length ?_ ?_
  · exact ⟨_, .refl, _, _, rfl, by omega, by simp⟩
  rintro k _ ⟨rows, clk, rfl, hk, hc⟩
  refine W.seq ?_
  refine W.sregJ (fun σ => ∃ (b : Bool), σ = ⟨fa [(0, us l), (3, .int .i64 (k : Int)), (15, .bool b)], rows, clk⟩ ∧ (b = true ↔ 0 < k ∧ nth l (k - 1) = 0)) (fun K hK => ?_) ?_
  · simp
    by_cases h0 : 0 < k
    · simp (disch := omega) [gA, wrap_i64, wrap_u64, wrap_u32, Int.tdiv_eq_ediv_of_nonneg, Int.tmod_eq_emod_of_nonneg, h0]
      exact hK _ _ (Gh_fa _ [0, 3, 15]) ⟨_, rfl, by simp [h0]⟩
    · simp (disch := omega) [gA, wrap_i64, wrap_u64, wrap_u32, Int.tdiv_eq_ediv_of_nonneg, Int.tmod_eq_emod_of_nonneg, h0]
      exact hK _ _ (Gh_fa _ [0, 3, 15]) ⟨_, rfl, by simp [h0]⟩
  rintro _ ⟨b, rfl, hb⟩
  refine W.cond ⟨_, rfl, fun h => ?_, fun h => ?_⟩
  · obtain ⟨h0, h1⟩ := hb.1 h
    refine W.skip (W.block ?_)
    refine W.reg (fun K hK => ?_)
    simp (disch := omega) [gA, wrap_i64, wrap_u64, wrap_u32, Int.tdiv_eq_ediv_of_nonneg, Int.tmod_eq_emod_of_nonneg]
    refine hK _ ⟨k - 1, _, Gh.fr [(0, _), (3, .int .i64 ((k - 1 : Nat) : Int))] (by simp; omega), by omega, _, _, rfl, by omega, ?_⟩
    rw [hc, show k = (k - 1) + 1 by omega, take_succ_nth (by omega), h1, cutR_zero]
    simp
  · have h2 : cutR l = l.take k := by
      rw [hc]
      by_cases h0 : 0 < k
      · have h1 : nth l (k - 1) ≠ 0 := fun h1 => by simp [hb.2 ⟨h0, h1⟩] at h
        rw [show k = (k - 1) + 1 by omega, take_succ_nth (by omega)]
        exact cutR_ne h1 _
      · have : k = 0 := by omega
        subst this; simp [cutR]
    refine W.exit ?_
    simp only [pblk_exit, pblk_normal, pblk_ret, pseq_exit, pseq_normal, pseq_ret, pnor_exit, pnor_normal, pnor_ret, if_true, if_false, reduceIte, Nat.reduceEqDiff]
    refine W.sreg (fun K hK => ?_)
    simp (disch := omega) [gA, wrap_i64, wrap_u64, wrap_u32, Int.tdiv_eq_ediv_of_nonneg, Int.tmod_eq_emod_of_nonneg]
    refine hK _ (W.liveK [2] fun K2 hK2 => ?_); clear hK K; simp; refine hK2 _ ?_; clear hK2 K2
    refine W.ret ?_
    simp [h2]
