import Derived.Test.YtmdcopgjjfihnaaGreatLgi
import Derived.Test.YtmdcopgjjfihnaaGreatLej
set_option linter.unusedSimpArgs false
set_option linter.unusedVariables false
namespace Go.Proofs.YtmdcopgjjfihnaaGreat
open Go Pm
open ZX hiding N W

/-! CHAPTER 08's LAWS: what they share. -/
theorem chT_bd {n : Nat} (hn : n ≤ 20) : ∀ (j s : Nat) (x g : ZX), BZ s n x → BZ s n g → Pot 4500000000 n s x g → ∀ p ∈ chT j x g, BZ 4500000000 n p
  | 0, _, _, _, _, _, _, p, hp => by cases hp
  | j + 1, s, x, g, bx, bg, hP, p, hp => by
    have hs := hP.le
    rw [chT] at hp
    split at hp
    · cases hp
    · rename_i h0
      have h0' : g ≠ 0 := ZX.ne_zero.2 (Nat.pos_of_ne_zero h0)
      rcases List.mem_cons.1 hp with rfl | hp
      · exact bg.mono (by omega) (Nat.le_refl _)
      · exact chT_bd hn j _ g (nx x g) (bg.mono (by omega) (Nat.le_refl _)) (nx_bd bx bg h0') (hP.step (nx_N h0')) p hp
theorem chT_len : ∀ (j : Nat) (x g : ZX), (chT j x g).length ≤ j
  | 0, _, _ => Nat.le_refl _
  | j + 1, x, g => by
    rw [chT]
    split
    · simp
    · simp only [List.length_cons]; have := chT_len j g (nx x g); omega
theorem Ch.all {s n : Nat} {f : ZX} (h : Ch s n f) : (∀ p ∈ chn f, BZ 4500000000 n p) ∧ (chn f).length ≤ 21 := by
  have hp := h.pot
  have hs := hp.le
  have hn := h.hn
  refine ⟨fun p hq => ?_, ?_⟩
  · rcases List.mem_cons.1 hq with rfl | hq
    · exact h.bz.mono (by omega) (Nat.le_refl _)
    · exact chT_bd hn _ _ _ _ (h.bz.mono (by omega) (Nat.le_refl _)) (prim_bd2 (h.bz.der (by omega))) hp p hq
  · have := chT_len (ZX.N f) f (ps1 (der f))
    have h2 := h.bz.N
    show (f :: chT (ZX.N f) f (ps1 (der f))).length ≤ 21
    simp only [List.length_cons]; omega
/-- A polynomial that has nothing in common with its derivative is its own squarefree part. -/
theorem sq_free {a u v : ZX} {c : Int} (na : Nf a) (hc : c ≠ 0) (h : u * a + v * der a = K c) : sq a = a := sq_eq na.ne na fun p hp => by
  have hm : mu p a ≤ 1 := by
    rcases Nat.lt_or_ge (mu p a) 2 with h1 | h1
    · omega
    · exfalso
      obtain ⟨m, hmm⟩ : ∃ m, mu p a = m + 1 := ⟨mu p a - 1, by omega⟩
      obtain ⟨_, h2⟩ := mu_der hp na.ne hmm
      have d1 : dv p a := by have := (mu_le hp na.ne).1 (show 1 ≤ mu p a by omega); rwa [show p ^ 1 = p by rw [pow_succ', pow_zero']; grind] at this
      have hd : der a ≠ 0 := fun h0 => by rw [h0] at h2; have : mu p (0 : ZX) = m := h2; have h9 := (mu_der hp na.ne hmm).1; exact h9 h0
      have d2 : dv p (der a) := by have := (mu_le hp hd).1 (show 1 ≤ mu p (der a) by omega); rwa [show p ^ 1 = p by rw [pow_succ', pow_zero']; grind] at this
      have d3 : dv p (K c) := by rw [← h]; exact (d1.mul_left u).add (d2.mul_left v)
      have h3 := d3.N_le (K_ne hc)
      have h4 := hp.deg
      rw [N_K hc] at h3
      omega
  omega
theorem qmk_self (q : Rat) : qmk q.num q.den = q := by
  rw [qmk, if_neg (by have := q.den_nz; omega)]
  exact Rat.num_divInt_den q
theorem sml_bd (n d : Int) : (sml n d).num.natAbs ≤ 30 ∧ ((sml n d).den : Int).natAbs ≤ 6 := by
  have h1 := Int.emod_nonneg n (show (61 : Int) ≠ 0 by decide)
  have h2 := Int.emod_lt_of_pos n (show (0 : Int) < 61 by decide)
  have h3 := Int.emod_nonneg d (show (6 : Int) ≠ 0 by decide)
  have h4 := Int.emod_lt_of_pos d (show (0 : Int) < 6 by decide)
  unfold sml
  rw [qmk_num _ _ (by omega), qmk_den _ _ (by omega)]
  rw [if_neg (by omega), if_neg (by omega)]
  refine ⟨Nat.le_trans (Int.natAbs_ediv_le_natAbs _ _) (by omega), Nat.le_trans (Int.natAbs_ediv_le_natAbs _ _) (by omega)⟩
/-- A rational that is told with few digits. -/
structure SQ (u : Nat) (q : Rat) : Prop where
  n2 : sz 2 q.num ≤ u
  d2 : sz 2 (q.den : Int) ≤ u
  hu : 1 ≤ u
theorem SQ.nL {u : Nat} {q : Rat} (h : SQ u q) : sz LL q.num ≤ u := Nat.le_trans (sz_LL_le _) h.n2
theorem SQ.dL {u : Nat} {q : Rat} (h : SQ u q) : sz LL (q.den : Int) ≤ u := Nat.le_trans (sz_LL_le _) h.d2
theorem sml_sq (n d : Int) : SQ 5 (sml n d) := by
  obtain ⟨h1, h2⟩ := sml_bd n d
  exact ⟨sz_small (by omega), sz_small (by omega), by decide⟩
section
variable {c : List ZX} {n u : Nat} {q : Rat} (hb : ∀ p ∈ c, BZ 4500000000 n p) (hn : n ≤ 20) (hl : c.length ≤ 21) (hq : SQ u q) (hu : u ≤ 1000000000)
include hb hn hl hq hu
theorem TA_ret : Ret env.P 66 [sls zq c, R2 q.num q.den] (.int .i64 (vr (sgs c q.num q.den))) := TurnsAt_ret (by omega) fun p hp => by
  have hmul : n * (u + 1) ≤ 20 * (u + 1) := Nat.mul_le_mul_right _ hn
  exact qSign_ret (hb p hp) hq.n2 hq.d2 hq.hu (by omega) (by show _ < 137438953472; omega)
theorem CT_ret : Ret env.P 65 [CH c, T2 q.num q.den] (.int .i64 (vr (sgs c q.num q.den))) := cTurns_ret (by omega) fun p hp => by
  have hmul : n * (u + 1) ≤ 20 * (u + 1) := Nat.mul_le_mul_right _ hn
  exact pSign_ret (bdL (hb p hp)) p.c hq.nL hq.dL hq.hu (by omega) (by omega) (by omega) (qmk_self q) ⟨hq.nL, hq.dL⟩
end
theorem pbs {c : List ZX} {n : Nat} (hb : ∀ p ∈ c, BZ 4500000000 n p) (hn : n ≤ 20) : ∀ p ∈ c, PB p.l := fun p hp => (hb p hp).pb (by decide) (by omega)
theorem New_nilG {α : Type} {g : α → List PV} {l : List α} (hS : Ret env.P 108 [sls g l] (.sl [])) : Ret env.P 45 [sls g l] (.tup [.pnil, .int .i64 2]) := by
  refine ret_of_Wf (E := env) (fun _ => 0) [(0, sls g l)] Tryz.func45 rfl (by kernel_rfl) (by kernel_rfl) (show 1 ≤ 48 by decide) (by simp) ?_
  refine W.sreg (fun K hK => ?_); simp (disch := omega) [gA, wA]; refine W.lv [0] hK fun J j => ?_; clear hK K; simp; refine j _ ?_; clear j J
  refine W.sreg (fun K hK => ?_)
  simp (disch := omega) [gA, wA]
  refine callR hS ?_
  simp (disch := omega) [gA, wA]
  refine W.lv [4] hK fun J j => ?_; clear hK K; simp; refine j _ ?_; clear j J
  refine W.seq ?_
  refine W.sreg (fun K hK => ?_); simp (disch := omega) [gA, wA]; refine W.lv [4, 14] hK fun J j => ?_; clear hK K; simp; refine j _ ?_; clear j J
  refine W.cond ⟨_, rfl, fun h => ?_, fun h => ?_⟩
  · refine W.sreg (fun K hK => ?_); simp (disch := omega) [gA, wA]; refine W.lv [2, 3] hK fun J j => ?_; clear hK K; simp; refine j _ ?_; clear j J
    refine W.ret ?_
    simp [go]
  · simp at h
theorem sq_zero : sq 0 = 0 := by unfold sq; rw [if_pos (by decide), nf_zero]
theorem New_nil : Ret env.P 45 [.sl []] (.tup [.pnil, .int .i64 2]) := by
  have hS := Square_ret (a := 0) (s := 1) (n := 1) ⟨⟨by decide, fun c hc => by cases hc⟩, by decide, by decide, by decide⟩
  rw [sq_zero] at hS
  exact New_nilG (g := ie) (l := []) hS
end Go.Proofs.YtmdcopgjjfihnaaGreat
