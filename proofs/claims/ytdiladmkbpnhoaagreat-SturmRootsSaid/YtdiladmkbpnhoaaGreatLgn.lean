import Derived.Test.YtdiladmkbpnhoaaGreatLgb
import Derived.Test.YtdiladmkbpnhoaaGreatMs
import Derived.Test.YtdiladmkbpnhoaaGreatLgi
set_option linter.unusedSimpArgs false
set_option linter.unusedVariables false
namespace Go.Proofs.YtdiladmkbpnhoaaGreat
open Go Pm
open ZX hiding N W
theorem two_pow_add (a b : Nat) : (2 : Rat) ^ (a + b) = 2 ^ a * 2 ^ b := by
 induction b with
 | zero => simp
 | succ b ih => rw [← Nat.add_assoc, Rat.pow_succ, Rat.pow_succ, ih]; grind
theorem two_pow_pos (a : Nat) : (0 : Rat) < 2 ^ a := Rat.pow_pos (by decide)
theorem two_pow_one : ∀ a : Nat, (1 : Rat) ≤ 2 ^ a
 | 0 => by simp
 | a + 1 => by
  have := two_pow_one a
  rw [Rat.pow_succ]; grind
theorem two_pow_le {a b : Nat} (h : a ≤ b) : (2 : Rat) ^ a ≤ 2 ^ b := by
 obtain ⟨c, rfl⟩ := Nat.exists_eq_add_of_le h
 rw [two_pow_add]
 have h1 := two_pow_one c
 have h2 := Rat.mul_le_mul_of_nonneg_left h1 (Rat.le_of_lt (two_pow_pos a))
 grind
theorem cast_lt_pow {c : Int} {s : Nat} (h : c.natAbs < 2 ^ s) : Ab (c : Rat) (2 ^ s) := by
 have h1 : ((2 ^ s : Int) : Rat) = 2 ^ s := by rw [Rat.intCast_pow]; rfl
 have h2 : (2 ^ s : Int) = ((2 ^ s : Nat) : Int) := by rw [Int.natCast_pow]; rfl
 constructor
 ·rw [← h1, ← Rat.intCast_neg]
  exact Rat.intCast_le_intCast.2 (by omega)
 ·rw [← h1]
  exact Rat.intCast_le_intCast.2 (by omega)
theorem Ab_sz {c : Int} {s : Nat} (h : sz 2 c ≤ s) : Ab (c : Rat) (2 ^ s) :=
 cast_lt_pow (Nat.lt_of_lt_of_le (sz_lt (b := 2) (by decide) c) (Nat.pow_le_pow_right (by decide) h))
theorem BZ.ab {s n : Nat} {a : ZX} (h : BZ s n a) : ∀ c ∈ a.l, Ab (c : Rat) (2 ^ s) := fun c hc => Ab_sz (h.sz c hc)
theorem qb4_pow (s β : Nat) : ∀ k, qb4 (2 ^ s) (2 ^ β) k = 2 ^ (s + k * (β + 2))
 | 0 => by simp [qb4]
 | k + 1 => by
  rw [qb4, qb4_pow s β k, show s + (k + 1) * (β + 2) = s + k * (β + 2) + β + 1 + 1 by rw [Nat.add_mul]; omega, Rat.pow_succ, Rat.pow_succ, two_pow_add _ β]
  grind
theorem BZ.e_bd {s n β : Nat} {a : ZX} (h : BZ s n a) {t : Rat} (ht : Ab t (2 ^ β)) : Ab (e t a) (2 ^ (s + n * (β + 2))) := by
 have h1 := qv_bd (S := 2 ^ s) (B := 2 ^ β) (Rat.le_of_lt (two_pow_pos s)) (two_pow_one β) ht a.l h.ab
 rw [qb4_pow] at h1
 exact h1.mono (two_pow_le (by have := Nat.mul_le_mul_right (β + 2) h.len; omega))
theorem rq_posB {s' N : Nat} {y : List Int} (by_ : Bd 2 s' N y) (cy : Cn y) (hy : 0 < y.length) : ∀ (n j s : Nat) (x : List Int), Cn x → x.length < n → Bd 2 s N x → x.length + 1 ≤ y.length + j →
  ∃ (m : Int) (q : List Int), 0 < m ∧ sz 2 m ≤ j * s' + 1 ∧ Bd 2 (s + j * (2 * s' + N + 2)) N q ∧ ∀ t, m * V t x = V t q * V t y + V t (rq y n x)
 | 0, j, s, x, _, h, _, _ => by omega
 | n + 1, j, s, x, cx, h, bx, hj => by
  rw [rq]
  split
  ·exact ⟨1, [], by decide, Nat.le_trans (sz_le (k := 1) (by decide) (by decide)) (by omega), ⟨by simp, fun c hc => by cases hc⟩, fun t => by simp [V]⟩
  ·rename_i h1
   obtain ⟨j, rfl⟩ : ∃ i, j = i + 1 := ⟨j - 1, by omega⟩
   have hl := rq1_len hy (show y.length ≤ x.length by omega)
   have hb := rq1_bd by_ bx hy (show y.length ≤ x.length by omega)
   obtain ⟨m, q, hm, hms, hq, h4⟩ := rq_posB by_ cy hy n j _ (rq1 y x) (Cn.psub _ _) (by omega) hb (by omega)
   have hl0 := lead_ne cy hy
   have e1 : (j + 1) * s' = j * s' + s' := by rw [Nat.add_mul]; omega
   have e2 : (j + 1) * (2 * s' + N + 2) = j * (2 * s' + N + 2) + (2 * s' + N + 2) := by rw [Nat.add_mul]; omega
   have e3 : j * s' ≤ j * (2 * s' + N + 2) := Nat.mul_le_mul_left _ (by omega)
   have sx : sz 2 (sgn (lead y) * lead x) ≤ s := by
    refine Nat.le_trans (sz_mono (b := 2) (by decide) ?_) (lead_bd bx)
    rw [Int.natAbs_mul]
    have : (sgn (lead y)).natAbs = 1 := by unfold sgn; split <;> rfl
    rw [this, Nat.one_mul]; exact Nat.le_refl _
   have hst := (Bd.pscale (b := 2) (by decide) (Bd.stp (b := 2) sx (x.length - y.length)) hms)
   have hlen := bx.len
   refine ⟨m * (lead y).natAbs, padd q (pscale (stp (x.length - y.length) (sgn (lead y) * lead x)) m), Int.mul_pos hm (by omega), ?_, ?_, fun t => ?_⟩
   ·have h8 : sz 2 ((lead y).natAbs : Int) ≤ s' := Nat.le_trans (sz_mono (b := 2) (by decide) (by simp)) (lead_bd by_)
    have := sz_mul (b := 2) (by decide) hms h8
    omega
   ·refine (Bd.padd (b := 2) (s := s + (j + 1) * (2 * s' + N + 2) - 1) (by decide) (hq.mono (by omega) (Nat.le_refl _)) (hst.mono (by omega) (by omega))).mono (by omega) (Nat.le_refl _)
   ·have h5 := V_rq1 t y x
    have h6 := h4 t
    rw [V_padd, V_pscale, V_stp]
    have : m * ((lead y).natAbs : Int) * V t x = m * (((lead y).natAbs : Int) * V t x) := by grind
    rw [this, h5]
    grind
theorem nx_rel {s n : Nat} {a b : ZX} (ha : BZ s n a) (hb : BZ s n b) (h0 : b ≠ 0) : ∃ (m : Int) (q : ZX), 0 < m ∧ sz 2 m ≤ (n + 1) * s + 1 ∧ BZ (s + (n + 1) * (2 * s + n + 2)) n q ∧ ((nx a b = 0 ∧ K m * a = q * b) ∨ (nx a b ≠ 0 ∧ ∃ k : Int, 0 < k ∧ K m * a = q * b - K k * nx a b)) := by
 obtain ⟨hrl, hN, _⟩ := rz_spec (a := a) h0
 obtain ⟨m, q, hm, hms, hq, e⟩ := rq_posB hb b.c (ZX.ne_zero.1 h0) (a.l.length + 1) (n + 1) s a.l a.c (by omega) ha (by have := ha.len; have := ZX.ne_zero.1 h0; show a.l.length + 1 ≤ b.l.length + (n + 1); omega)
 rw [← hrl] at e
 have e1 : K m * a = ZX.of q * b + rz a b := ZX.ext fun t => by rw [v_mul, v_K, v_add, v_mul, v_of]; exact e t
 refine ⟨m, ZX.of q, hm, hms, Bd.cut hq, ?_⟩
 by_cases hr : rz a b = 0
 ·left
  refine ⟨?_, by rw [e1, hr]; grind⟩
  exact ZX.ext fun t => by
   show V t (pneg (prim (rz a b).l)) = _
   rw [hr]; rfl
 ·right
  have hrn : (rz a b).l ≠ [] := ne_l hr
  have hp := prim_map (rz a b).c hrn
  have hg := gcdL_Cn_pos (rz a b).c hrn
  have hnx : K (gcdL (rz a b).l : Int) * nx a b = -(rz a b) := ZX.ext fun t => by
   rw [v_mul, v_K, v_neg]
   show _ * V t (pneg (prim (rz a b).l)) = _
   rw [V_pneg]
   have h2 : V t (rz a b).l = V t (prim (rz a b).l) * (gcdL (rz a b).l : Int) := by rw [← V_mapmul, hp]
   rw [h2]; grind
  refine ⟨fun h => hr ?_, _, Int.natCast_pos.2 (Nat.pos_of_ne_zero hg), by rw [hnx, e1]; grind⟩
  rw [h] at hnx
  have : (rz a b) = -(K (gcdL (rz a b).l : Int) * 0) := by rw [hnx]; grind
  rw [this]; grind
theorem const_of_dv {a b : ZX} (hb : b ≠ 0) (hg : gz a b = 1) (hd : dv b a) : ∃ c : Int, c ≠ 0 ∧ b = K c := by
 have h1 := (gz_isG a b).least hd (dv.refl b)
 rw [hg] at h1
 have h2 := h1.N_le one_ne
 rw [ZX.N_one] at h2
 have := ZX.ne_zero.1 hb
 exact ZX.of_N1 (by omega)
def mub (C n β : Nat) : Nat := C + (n + 1) * (2 * C + n + 2) + n * (β + 2) + 2
theorem chT_StC {C n β : Nat} (hn : n ≤ 20) : ∀ (k s : Nat) (a b : ZX), ZX.N b ≤ k → b ≠ 0 → BZ s n a → BZ s n b → Pot C n s a b → gz a b = 1 → StC (2 ^ mub C n β) (2 ^ β) (a :: chT k a b) ∧ ∀ p ∈ chT k a b, BZ C n p
 | 0, s, a, b, hk, h0, _, _, _, _ => absurd hk (by have := ZX.ne_zero.1 h0; omega)
 | k + 1, s, a, b, hk, h0, ha, hb, hp, hg => by
  have hs := hp.le
  have hNb := ZX.ne_zero.1 h0
  obtain ⟨m, q, hm, hms, hq, hr⟩ := nx_rel ha hb h0
  rw [chT, if_neg (by omega)]
  have hbC : BZ C n b := hb.mono (by omega) (Nat.le_refl _)
  rcases hr with ⟨hz, e1⟩ | ⟨hz, kk, hkk, e1⟩
  ·rw [hz, chT_zero]
   exact ⟨const_of_dv h0 hg ⟨m, by omega, q, e1⟩, fun p hp => by
    simp only [List.mem_cons, List.not_mem_nil, or_false] at hp
    subst hp; exact hbC⟩
  ·have hN := nx_N (a := a) h0
   have hg2 : gz b (nx a b) = 1 := by
    rw [← hg]
    exact (gz_step (c := m) (k := -kk) (q := q) (by omega) (by omega) (by rw [e1, show K (-kk) = -K kk from ZX.ext fun t => by rw [v_K, v_neg, v_K]]; grind)).symm
   obtain ⟨ih, ih2⟩ := chT_StC hn k _ b (nx a b) (by omega) hz (hb.mono (Nat.le_add_right _ _) (Nat.le_refl _)) (nx_bd ha hb h0) (hp.step hN) hg2
   refine ⟨?_, fun p hp => ?_⟩
   ·obtain ⟨k2, rfl⟩ : ∃ k2, k = k2 + 1 := ⟨k - 1, by have := ZX.ne_zero.1 hz; omega⟩
    rw [chT, if_neg (by have := ZX.ne_zero.1 hz; omega)] at ih ⊢
    have c1 : (n + 1) * s ≤ (n + 1) * (2 * C + n + 2) := Nat.mul_le_mul_left _ (by omega)
    have c2 : (n + 1) * (2 * s + n + 2) ≤ (n + 1) * (2 * C + n + 2) := Nat.mul_le_mul_left _ (by omega)
    refine ⟨ih, m, kk, q, hm, hkk, e1, ?_, fun t ht => ?_⟩
    ·have h1 := (Ab_sz hms).2
     have h2 := two_pow_le (show (n + 1) * s + 1 + 1 ≤ mub C n β by unfold mub; omega)
     rw [Rat.pow_succ] at h2
     grind
    ·have h1 := (BZ.e_bd hq ht)
     have h2 := (Ab.mul (x := 2) (M := 2) ⟨by decide, by decide⟩ h1)
     refine h2.mono ?_
     have h3 := two_pow_le (show s + (n + 1) * (2 * s + n + 2) + n * (β + 2) + 1 ≤ mub C n β by unfold mub; omega)
     rw [Rat.pow_succ] at h3
     grind
   ·rcases List.mem_cons.1 hp with rfl | hp
    ·exact hbC
    ·exact ih2 p hp
theorem chT_len' : ∀ (k : Nat) (a b : ZX), (chT k a b).length ≤ ZX.N b
 | 0, a, b => by simp [chT]
 | k + 1, a, b => by
  rw [chT]
  split
  ·simp
  ·rename_i h0
   have := nx_N (a := a) (ZX.ne_zero.2 (Nat.pos_of_ne_zero h0))
   have := chT_len' k b (nx a b)
   simp only [List.length_cons]; omega
theorem ps1_K {a : ZX} (ha : a ≠ 0) : ∃ c : Int, 0 < c ∧ a = K c * ps1 a := by
 have hp := prim_map a.c (ne_l ha)
 refine ⟨(gcdL a.l : Int), Int.natCast_pos.2 (Nat.pos_of_ne_zero (gcdL_Cn_pos a.c (ne_l ha))), ZX.ext fun t => ?_⟩
 rw [v_mul, v_K]
 show _ = _ * V t (prim a.l)
 have h2 : V t a.l = V t (prim a.l) * (gcdL a.l : Int) := by rw [← V_mapmul, hp]
 rw [h2]; grind
theorem chn_StC {C s n β : Nat} {f : ZX} (hn : n ≤ 20) (hf : f ≠ 0) (hb : BZ (s + 5) n f) (hp : Pot C n (s + 5) f (ps1 (der f))) (bd : BZ (s + 5) n (ps1 (der f))) (hg : gz f (der f) = 1) : StC (2 ^ mub C n β) (2 ^ β) (chn f) ∧ (∀ p ∈ chn f, BZ C n p) ∧ (chn f).length ≤ n + 1 ∧ ∀ g k, chT (ZX.N f) f (ps1 (der f)) = g :: k → ∃ c : Int, 0 < c ∧ der f = K c * g := by
 have hs := hp.le
 have hfC : BZ C n f := hb.mono (by omega) (Nat.le_refl _)
 have hNf := hb.N
 have h1 := N_der f
 have h2 : ZX.N (ps1 (der f)) ≤ ZX.N (der f) := prim_len _
 by_cases h0 : der f = 0
 ·have hps : ps1 (der f) = 0 := by rw [h0]; exact ZX.ext fun t => rfl
  have hc : chn f = [f] := by unfold chn; rw [hps, chT_zero]
  rw [hc]
  have hN1 : ZX.N f ≤ 1 := Classical.byContradiction fun h => der_ne (a := f) (by omega) h0
  refine ⟨ZX.of_N1 (by have := ZX.ne_zero.1 hf; omega), fun p hp => by
   simp only [List.mem_cons, List.not_mem_nil, or_false] at hp
   subst hp; exact hfC, by simp, fun g k h => ?_⟩
  rw [hps, chT_zero] at h; cases h
 ·obtain ⟨c, hc, e⟩ := ps1_K h0
  have hps : ps1 (der f) ≠ 0 := fun h => h0 (by rw [e, h]; grind)
  have hg2 : gz f (ps1 (der f)) = 1 := by
   rw [← hg]
   refine gz_congr (dv.refl f) (dv.refl f) ⟨1, by decide, K c, by rw [e]; show (1 : ZX) * _ = _; grind⟩ ⟨c, by omega, 1, by grind⟩
  obtain ⟨g1, g2⟩ := chT_StC (β := β) hn (ZX.N f) (s + 5) f (ps1 (der f)) (by omega) hps hb bd hp hg2
  refine ⟨g1, fun p hp => ?_, ?_, fun g k h => ?_⟩
  ·rcases List.mem_cons.1 hp with rfl | hp
   ·exact hfC
   ·exact g2 p hp
  ·have := chT_len' (ZX.N f) f (ps1 (der f))
   show (f :: chT (ZX.N f) f (ps1 (der f))).length ≤ _
   simp only [List.length_cons]
   omega
  ·obtain ⟨j, hj⟩ : ∃ j, ZX.N f = j + 1 := ⟨ZX.N f - 1, by have := ZX.ne_zero.1 hf; omega⟩
   rw [hj, chT, if_neg (by have := ZX.ne_zero.1 hps; omega)] at h
   cases h
   exact ⟨c, hc, e⟩
theorem eps_pow (μ : Nat) : ∀ k, (2 : Rat) ^ (μ * k) * eps (2 ^ μ) k = 1
 | 0 => by simp [eps]
 | k + 1 => by
  have h1 := eps_pow μ k
  have h2 : eps (2 ^ μ) (k + 1) = eps (2 ^ μ) k / 2 ^ μ := rfl
  have h3 : eps ((2 : Rat) ^ μ) k / 2 ^ μ * 2 ^ μ = eps (2 ^ μ) k := Rat.div_mul_cancel (Rat.ne_of_gt (two_pow_pos μ))
  rw [h2, Nat.mul_add, Nat.mul_one, two_pow_add]
  grind
def jb (C n β : Nat) : Nat := (n + 1) * mub C n β + C + n * (β + 2) + 1
theorem chn_loc {C s n β : Nat} {f : ZX} (hn : n ≤ 20) (hf : f ≠ 0) (hb : BZ (s + 5) n f) (hp : Pot C n (s + 5) f (ps1 (der f))) (bd : BZ (s + 5) n (ps1 (der f))) (hg : gz f (der f) = 1) {δ : Rat} (hδ : δ * 2 ^ jb C n β ≤ 1) : Lcl (chn f) f (2 ^ β) δ := by
 obtain ⟨h1, h2, h3, h4⟩ := chn_StC (β := β) hn hf hb hp bd hg
 have hM : (2 : Rat) ≤ 2 ^ mub C n β := by
  have := two_pow_le (show 1 ≤ mub C n β by unfold mub; omega)
  rw [Rat.pow_one] at this
  exact this
 refine StC.loc (Q := 2 ^ (C + n * (β + 2))) hM (two_pow_one β) (Rat.le_of_lt (two_pow_pos C)) h1 (fun p hp => ⟨(h2 p hp).ab, ?_⟩) h4 ?_
 ·rw [qb4_pow]
  exact two_pow_le (by have := Nat.mul_le_mul_right (β + 2) (h2 p hp).len; omega)
 ·have e1 := eps_pow (mub C n β) (chn f).length
  have hε := eps_pos hM (chn f).length
  have h5 : mub C n β * (chn f).length + (C + n * (β + 2)) + 1 ≤ jb C n β := by
   have := Nat.mul_le_mul_left (mub C n β) h3
   rw [Nat.mul_comm (mub C n β) (n + 1)] at this
   unfold jb; omega
  have h6 := two_pow_le h5
  rw [Rat.pow_succ, two_pow_add] at h6
  have hA := two_pow_pos (mub C n β * (chn f).length)
  have hB := two_pow_pos (C + n * (β + 2))
  show δ * 2 ^ (C + n * (β + 2)) < eps (2 ^ mub C n β) (chn f).length
  generalize (2 : Rat) ^ (mub C n β * (chn f).length) = A at *
  generalize (2 : Rat) ^ (C + n * (β + 2)) = Q at *
  generalize eps ((2 : Rat) ^ mub C n β) (chn f).length = ε at *
  generalize (2 : Rat) ^ jb C n β = J at *
  by_cases h0 : 0 < δ
  ·have h7 := Rat.mul_le_mul_of_nonneg_left h6 (Rat.le_of_lt h0)
   have h8 : δ * Q * A ≤ 1 / 2 := by grind
   refine Rat.lt_of_mul_lt_mul_right (c := A) ?_ (Rat.le_of_lt hA)
   grind
  ·have h7 := Rat.mul_le_mul_of_nonneg_right (show δ ≤ 0 by grind) (Rat.le_of_lt hB)
   grind
end Go.Proofs.YtdiladmkbpnhoaaGreat
namespace Go.Proofs.YtdiladmkbpnhoaaGreat
open Go Pm
open ZX hiding N W
theorem vst_vrf : ∀ (l : List Int) (n : Nat) (p : Int), (l.foldl vst (n, p)).1 = n + vrf p l
 | [], n, p => rfl
 | s :: l, n, p => by
  have h : vst (n, p) s = if s = 0 then (n, p) else (if p ≠ 0 ∧ s ≠ p then n + 1 else n, s) := rfl
  rw [List.foldl_cons, h]
  simp only [vrf]
  split
  ·exact vst_vrf l n p
  ·split <;> rw [vst_vrf l] <;> omega
theorem vr_vrf (l : List Int) : vr l = vrf 0 l := by
 rw [vr, vst_vrf]; omega
theorem hm_qv {n d : Int} {q : Rat} (h : (n : Rat) = q * d) : ∀ x : List Int, ((hm n d x).1 : Rat) * d = qv q x * (d : Rat) ^ x.length ∧ ((hm n d x).2 : Rat) = (d : Rat) ^ x.length
 | [] => by
  refine ⟨?_, ?_⟩
  ·show ((0 : Int) : Rat) * d = 0 * _
   rw [Rat.intCast_zero, Rat.zero_mul, Rat.zero_mul]
  ·show ((1 : Int) : Rat) = (d : Rat) ^ 0
   rw [Rat.intCast_one, Rat.pow_zero]
 | a :: l => by
  obtain ⟨h1, h2⟩ := hm_qv h l
  have e : hm n d (a :: l) = ((hm n d l).1 * n + a * (hm n d l).2, (hm n d l).2 * d) := rfl
  rw [e]
  simp only [qv, List.length_cons, Rat.pow_succ, Rat.intCast_add, Rat.intCast_mul]
  rw [h, h2]
  refine ⟨?_, rfl⟩
  have : (((hm n d l).1 : Rat) * (q * d) + a * (d : Rat) ^ l.length) * d = ((hm n d l).1 : Rat) * d * (q * d) + a * ((d : Rat) ^ l.length * d) := by grind
  rw [this, h1]; grind
theorem sign_cast (v : Int) : v.sign = sg3 (v : Rat) := by
 rcases Int.lt_trichotomy v 0 with h | h | h
 ·rw [Int.sign_eq_neg_one_of_neg h, sg3_neg (Rat.intCast_neg_iff.2 h)]
 ·subst h; decide
 ·rw [Int.sign_eq_one_of_pos h, sg3_pos (Rat.intCast_pos.2 h)]
theorem sgA_sg3 (p : ZX) (q : Rat) : sgA p.l q.num q.den = sg3 (e q p) := by
 have hd : (0 : Rat) < ((q.den : Int) : Rat) := Rat.intCast_pos.2 (by have := q.den_pos; omega)
 have hq : ((q.num : Int) : Rat) = q * ((q.den : Int) : Rat) := by
  have h1 : q = (q.num : Rat) / ((q.den : Int) : Rat) := by
   rw [← Rat.divInt_eq_div, Rat.num_divInt_den]
  have h2 := Rat.div_mul_cancel (a := (q.num : Rat)) (Rat.ne_of_gt hd)
  rw [← h1] at h2
  exact h2.symm
 have h1 := (hm_qv hq p.l).1
 show (hm q.num q.den p.l).1.sign = sg3 (qv q p.l)
 rw [sign_cast]
 have h2 : sg3 (((hm q.num q.den p.l).1 : Rat) * ((q.den : Int) : Rat)) = sg3 (qv q p.l * ((q.den : Int) : Rat) ^ p.l.length) := by rw [h1]
 rw [sg3_mul, sg3_mul, sg3_pos hd, sg3_pos (Rat.pow_pos hd)] at h2
 omega
theorem vr_sgs (c : List ZX) (q : Rat) : vr (sgs c q.num q.den) = vt c q := by
 rw [vr_vrf]
 unfold vt sgs sgl
 congr 1
 exact List.map_congr_left fun p _ => sgA_sg3 p q
theorem far_bd (c : List ZX) : ∃ S : Rat, 0 ≤ S ∧ ∀ p ∈ c, ∀ x ∈ p.l, Ab (x : Rat) S := by
 induction c with
 | nil => exact ⟨0, Rat.le_refl, fun p hp => by cases hp⟩
 | cons a c ih =>
  obtain ⟨S, hS, h⟩ := ih
  obtain ⟨A, hA, ha⟩ := cast_bd a.l
  refine ⟨S + A, by grind, fun p hp x hx => ?_⟩
  rcases List.mem_cons.1 hp with rfl | hp
  ·exact (ha x hx).mono (by grind)
  ·exact (h p hp x hx).mono (by grind)
theorem far_vt (c : List ZX) : ∃ X : Rat, 1 ≤ X ∧ (∀ t, X ≤ t → vt c t = vr (sgR c)) ∧ ∀ t, t ≤ -X → vt c t = vr (sgL c) := by
 obtain ⟨S, hS, h⟩ := far_bd c
 refine ⟨S + 1, by grind, fun t ht => ?_, fun t ht => ?_⟩
 ·rw [vr_vrf]
  unfold vt sgR sgl
  congr 1
  exact List.map_congr_left fun p hp => (far_signs hS p.c (h p hp)).1 ht
 ·rw [vr_vrf]
  unfold vt sgL sgl
  congr 1
  exact List.map_congr_left fun p hp => (far_signs hS p.c (h p hp)).2 ht
theorem sq_two {a : ZX} (ha : a ≠ 0) : Nf (sq a) ∧ ∀ p, ZX.Irr p → ZX.mu p (sq a) = min (ZX.mu p a) 1 := by
 have hA := nf_Nf ha
 unfold sq
 split
 ·rename_i h
  refine ⟨hA, fun p hp => ?_⟩
  obtain ⟨c, hc, rfl⟩ := ZX.of_N1 (x := a) (by have := ZX.ne_zero.1 ha; omega)
  rw [mu_nf hp ha, ZX.mu_K hp hc]; rfl
 ·exact ⟨sz_Nf hA, fun p hp => by rw [sz_mu hA hp, mu_nf hp ha]⟩
theorem sq_gd {a : ZX} (ha : a ≠ 0) : gz (sq a) (der (sq a)) = 1 := by
 obtain ⟨h1, h2⟩ := sq_two ha
 refine Nf.eq_of_mu (gd_Nf h1.ne) Nf.one fun p hp => ?_
 have e1 : mu p (1 : ZX) = 0 := mu_K hp (by decide)
 have h3 := gd_mu h1.ne hp
 rw [h2 p hp] at h3
 rw [e1]
 show mu p (gd (sq a)) = 0
 rw [h3]
 omega
theorem sq_dv_a {a : ZX} (ha : a ≠ 0) : dv (sq a) a := (sq_dv ha).2.trans (dv_nf a).2
theorem Lcl.mono {L : List ZX} {f : ZX} {B C δ : Rat} (h : Lcl L f B δ) (hc : C ≤ B) : Lcl L f C δ :=
 ⟨fun s t hs ht => h.turns s t (hs.mono hc) (ht.mono hc), fun s t hs ht => h.simple s t (hs.mono hc) (ht.mono hc)⟩
theorem le_two_pow (B : Rat) : ∃ β : Nat, B ≤ 2 ^ β := by
 have h1 := Rat.lt_floor_add_one B
 refine ⟨(B.floor + 1).toNat, Rat.le_trans (Rat.le_of_lt h1) ?_⟩
 have h2 : ((2 ^ (B.floor + 1).toNat : Int) : Rat) = 2 ^ (B.floor + 1).toNat := by rw [Rat.intCast_pow]; rfl
 rw [← h2]
 refine Rat.intCast_le_intCast.2 ?_
 have h3 : (B.floor + 1).toNat < 2 ^ (B.floor + 1).toNat := Nat.lt_two_pow_self
 have h4 : ((2 ^ (B.floor + 1).toNat : Nat) : Int) = 2 ^ (B.floor + 1).toNat := by rw [Int.natCast_pow]; rfl
 omega
theorem Ch.glob {s n : Nat} {f : ZX} (h : Ch s n f) (hf : f ≠ 0) (hg : gz f (der f) = 1) : Glob (chn f) f := ⟨fun B hB => by
 have hn := h.hn
 obtain ⟨β, hβ⟩ := le_two_pow B
 have bd : BZ (s + 5) n (der f) := h.bz.der (by omega)
 have hJ := two_pow_pos (jb 4500000000 n β)
 have hJ1 : (1 : Rat) / 2 ^ jb 4500000000 n β * 2 ^ jb 4500000000 n β = 1 := Rat.div_mul_cancel (Rat.ne_of_gt hJ)
 refine ⟨1 / 2 ^ jb 4500000000 n β, (Rat.lt_div_iff hJ).2 (by grind), ?_⟩
 exact Lcl.mono (chn_loc hn hf (h.bz.mono (by omega) (Nat.le_refl _)) h.pot (prim_bd2 bd) hg (by rw [hJ1]; exact Rat.le_refl)) hβ⟩
theorem Lay.glob {s n : Nat} {a : ZX} (h : Lay s n a) (h0 : a ≠ 0) (hn1 : 1 ≤ n) : Glob (chn (sq a)) (sq a) := (h.ch h0 hn1).glob (sq_two h0).1.ne (sq_gd h0)
def linq (t : Rat) : ZX := of [-t.num, (t.den : Int)]
theorem e_linq (s t : Rat) : e s (linq t) = ((t.den : Int) : Rat) * (s - t) := by
 rw [linq, e_lin, Rat.intCast_neg]
 have hd : (0 : Rat) < ((t.den : Int) : Rat) := Rat.intCast_pos.2 (by have := t.den_pos; omega)
 have hq : ((t.num : Int) : Rat) = t * ((t.den : Int) : Rat) := by
  have h1 : t = (t.num : Rat) / ((t.den : Int) : Rat) := by
   rw [← Rat.divInt_eq_div, Rat.num_divInt_den]
  have h2 := Rat.div_mul_cancel (a := (t.num : Rat)) (Rat.ne_of_gt hd)
  rw [← h1] at h2
  exact h2.symm
 rw [hq]; grind
theorem linq_N (t : Rat) : ZX.N (linq t) = 2 := by
 have : cutR [-t.num, (t.den : Int)] = [-t.num, (t.den : Int)] := cutR_ne (x := (t.den : Int)) (by have := t.den_nz; omega) [-t.num]
 show (cutR [-t.num, (t.den : Int)]).length = 2
 rw [this]; rfl
theorem linq_Irr (t : Rat) : Irr (linq t) := ⟨by rw [linq_N]; decide, fun d hd => by
 have h0 : linq t ≠ 0 := ZX.ne_zero.2 (by rw [linq_N]; decide)
 have h1 := hd.N_le h0
 have h2 := ZX.ne_zero.1 (hd.ne h0)
 rw [linq_N] at h1 ⊢
 omega⟩
theorem e_dv {a b : ZX} {t : Rat} (h : dv b a) (hb : e t b = 0) : e t a = 0 := by
 obtain ⟨c, hc, q, he⟩ := h
 have h1 : (c : Rat) * e t a = e t q * e t b := by rw [← e_K (t := t) c, ← e_mul, he, e_mul]
 rw [hb, Rat.mul_zero] at h1
 exact (Rat.mul_eq_zero.1 h1).resolve_left fun h => hc (Rat.intCast_eq_zero_iff.1 h)
theorem root_dv {a : ZX} {t : Rat} : e t a = 0 ↔ dv (linq t) a := by
 have h0 : linq t ≠ 0 := ZX.ne_zero.2 (by rw [linq_N]; decide)
 have hz : e t (linq t) = 0 := by rw [e_linq]; grind
 refine ⟨fun ha => ?_, fun h => e_dv h hz⟩
 obtain ⟨c, hc, q, r, he, hN⟩ := ZX.divide a h0
 have h1 : e t (K c * a) = e t q * e t (linq t) + e t r := by rw [he, e_add, e_mul]
 rw [e_mul, ha, hz] at h1
 have hr : e t r = 0 := by grind
 have hr0 : r = 0 := Classical.byContradiction fun hr0 => by
  rw [linq_N] at hN
  obtain ⟨k, hk, rfl⟩ := ZX.of_N1 (x := r) (by have := ZX.ne_zero.1 hr0; omega)
  rw [e_K] at hr
  exact hk (Rat.intCast_eq_zero_iff.1 hr)
 exact ⟨c, hc, q, by rw [he, hr0]; grind⟩
theorem root_sq {a : ZX} (ha : a ≠ 0) {t : Rat} : e t (sq a) = 0 ↔ e t a = 0 := by
 refine ⟨e_dv (sq_dv_a ha), fun h => ?_⟩
 have hp := linq_Irr t
 have h1 := root_dv.1 h
 obtain ⟨g1, g2⟩ := sq_two ha
 have p1 : (linq t) ^ 1 = linq t := by rw [pow_succ', pow_zero']; grind
 have h2 : 1 ≤ mu (linq t) a := (mu_le hp ha).2 (by rw [p1]; exact h1)
 have h3 : 1 ≤ mu (linq t) (sq a) := by rw [g2 _ hp]; omega
 have h4 := (mu_le hp g1.ne).1 h3
 rw [p1] at h4
 exact root_dv.2 h4
end Go.Proofs.YtdiladmkbpnhoaaGreat
namespace Go.Proofs.YtdiladmkbpnhoaaGreat
open Go Pm
open ZX hiding N W
theorem Bg.far {s n : Nat} {p : ZX} (h : BZ s n p) (h0 : p ≠ 0) (a : Rat) {b : Rat} (hb : b ≤ -(2 ^ s + 1)) : Bg a b p := ⟨1, by decide, fun x _ hx => by
 obtain ⟨h1, h2⟩ := far_left (Rat.le_of_lt (two_pow_pos s)) (show x ≤ -(2 ^ s + 1) by grind) p.c (ZX.ne_zero.1 h0) h.ab
 have hl := lead_ne p.c (ZX.ne_zero.1 h0)
 rcases Int.lt_trichotomy (if p.l.length % 2 = 0 then -lead p.l else lead p.l) 0 with h3 | h3 | h3
 ·exact .inl (h2 h3)
 ·exfalso; split at h3 <;> omega
 ·exact .inr (h1 h3)⟩
theorem Bg.far' {s n : Nat} {p : ZX} (h : BZ s n p) (h0 : p ≠ 0) {a : Rat} (b : Rat) (ha : 2 ^ s + 1 ≤ a) : Bg a b p := ⟨1, by decide, fun x hx _ => by
 obtain ⟨h1, h2⟩ := far_right (Rat.le_of_lt (two_pow_pos s)) (show 2 ^ s + 1 ≤ x by grind) p.c (ZX.ne_zero.1 h0) h.ab
 have hl := lead_ne p.c (ZX.ne_zero.1 h0)
 rcases Int.lt_trichotomy (lead p.l) 0 with h3 | h3 | h3
 ·exact .inl (h2 h3)
 ·exfalso; omega
 ·exact .inr (h1 h3)⟩
theorem Bg.mades {l : List Int} {most : Nat} {a b : Rat} (h : ∀ p, BZ 3 3 p → p ≠ 0 → Bg a b p) : ∀ j, Bg a b (mades l most j)
 | 0 => Bg.K (c := 1) (by decide)
 | j + 1 => by
  obtain ⟨b1, b2, b3⟩ := mfac_ok l (3 * j)
  have ih := Bg.mades h (l := l) (most := most) j
  show Bg a b (mstep l most (3 * j) (Go.Proofs.YtdiladmkbpnhoaaGreat.mades l most j))
  unfold mstep
  split
  ·exact ih
  ·exact ih.mul ((h _ b1 b3).pow _)
theorem Bg.made {l : List Int} {most : Nat} {a b : Rat} (h : ∀ p, BZ 3 3 p → p ≠ 0 → Bg a b p) : Bg a b (made l most) := by
 unfold Go.Proofs.YtdiladmkbpnhoaaGreat.made
 split
 ·exact (Bg.K (by decide)).mul (Bg.mades h _)
 ·exact Bg.mades h _
theorem ends_left {L : List ZX} {f : ZX} (h : Glob L f) {b : Rat} (hb : ∀ a, Bg a b f) : vr (sgL L) = vt L b := by
 obtain ⟨X, hX, _, h2⟩ := far_vt L
 by_cases hb2 : b ≤ -X
 ·exact (h2 b hb2).symm
 ·rw [← h2 (-X) Rat.le_refl]
  exact h.bg (hb (-X)) (Rat.not_le.1 hb2)
theorem ends_right {L : List ZX} {f : ZX} (h : Glob L f) {a : Rat} (ha : ∀ b, Bg a b f) : vr (sgR L) = vt L a := by
 obtain ⟨X, hX, h1, _⟩ := far_vt L
 by_cases hb2 : X ≤ a
 ·exact (h1 a hb2).symm
 ·rw [← h1 X Rat.le_refl]
  exact (h.bg (ha X) (Rat.not_le.1 hb2)).symm
theorem made_left (l : List Int) (most : Nat) (hG : Glob (chn (sq (made l most))) (sq (made l most))) : vr (sgL (chn (sq (made l most)))) = vt (chn (sq (made l most))) (-1000) :=
 ends_left hG fun a => (Bg.made fun p hp h0 => Bg.far hp h0 a (by grind)).dv (sq_dv_a (made_ok l most).1)
def swp (T : List Rat) (a b : Nat) : List Rat := if nth T a < nth T b then (T.set a (nth T b)).set b (nth T a) else T
def swps (T : List Rat) (a : Nat) : Nat → List Rat
 | 0 => T
 | b + 1 => swp (swps T a b) a b
def swpss (T : List Rat) : Nat → List Rat
 | 0 => T
 | a + 1 => swps (swpss T a) a a
theorem swp_len (T : List Rat) (a b : Nat) : (swp T a b).length = T.length := by unfold swp; split <;> simp
theorem swp_all {P : Rat → Prop} {T : List Rat} {a b : Nat} (ha : a < T.length) (hb : b < T.length) (h : ∀ x ∈ T, P x) : ∀ x ∈ swp T a b, P x := by
 unfold swp
 split
 ·intro x hx
  rcases List.mem_or_eq_of_mem_set hx with hx | rfl
  ·rcases List.mem_or_eq_of_mem_set hx with hx | rfl
   ·exact h x hx
   ·exact h _ (nth_mem hb)
  ·exact h _ (nth_mem ha)
 ·exact h
theorem swps_all {P : Rat → Prop} {T : List Rat} {a : Nat} (ha : a < T.length) (h : ∀ x ∈ T, P x) : ∀ b, b ≤ a → (∀ x ∈ swps T a b, P x) ∧ (swps T a b).length = T.length
 | 0, _ => ⟨h, rfl⟩
 | b + 1, hb => by
  obtain ⟨h1, h2⟩ := swps_all ha h b (by omega)
  exact ⟨swp_all (by omega) (by omega) h1, by rw [swps, swp_len, h2]⟩
theorem swpss_all {P : Rat → Prop} {T : List Rat} (h : ∀ x ∈ T, P x) : ∀ a, a ≤ T.length → (∀ x ∈ swpss T a, P x) ∧ (swpss T a).length = T.length
 | 0, _ => ⟨h, rfl⟩
 | a + 1, ha => by
  obtain ⟨h1, h2⟩ := swpss_all h a (by omega)
  obtain ⟨h3, h4⟩ := swps_all (a := a) (by omega) h1 a (Nat.le_refl _)
  exact ⟨h3, by rw [swpss, h4, h2]⟩
theorem swp_pos {T : List Rat} {a b : Nat} (h : nth T a < nth T b) : swp T a b = (T.set a (nth T b)).set b (nth T a) := if_pos h
theorem swp_neg {T : List Rat} {a b : Nat} (h : ¬ nth T a < nth T b) : swp T a b = T := if_neg h
theorem swpss_three (p q r : Rat) : ∃ x y z, swpss [p, q, r] 3 = [x, y, z] ∧ x ≤ y ∧ y ≤ z := by
 simp only [swpss, swps]
 have s1 : ∃ p' q', swp [p, q, r] 1 0 = [p', q', r] ∧ p' ≤ q' := by
  by_cases h : q < p
  ·exact ⟨q, p, swp_pos (T := [p, q, r]) (a := 1) (b := 0) h, by grind⟩
  ·exact ⟨p, q, swp_neg (T := [p, q, r]) (a := 1) (b := 0) h, by grind⟩
 obtain ⟨p', q', e1, h1⟩ := s1
 rw [e1]
 have s2 : ∃ x r', swp [p', q', r] 2 0 = [x, q', r'] ∧ x ≤ q' ∧ x ≤ r' := by
  by_cases h : r < p'
  ·exact ⟨r, p', swp_pos (T := [p', q', r]) (a := 2) (b := 0) h, by grind, by grind⟩
  ·exact ⟨p', r, swp_neg (T := [p', q', r]) (a := 2) (b := 0) h, by grind, by grind⟩
 obtain ⟨x, r', e2, h2, h3⟩ := s2
 rw [e2]
 by_cases h : r' < q'
 ·exact ⟨x, r', q', swp_pos (T := [x, q', r']) (a := 2) (b := 1) h, by grind, by grind⟩
 ·exact ⟨x, q', r', swp_neg (T := [x, q', r']) (a := 2) (b := 1) h, by grind, by grind⟩
theorem cmp3_lt_rat (p q : Rat) : (cmp3 (p.num * q.den) (q.num * p.den) < 0) ↔ p < q := by
 rw [cmp3_neg, Rat.lt_iff]
theorem sml_range (n d : Int) : Ab (sml n d) 30 := by
 obtain ⟨h1, _⟩ := sml_bd n d
 have hd : (1 : Rat) ≤ (((sml n d).den : Int) : Rat) := one_le_cast (by have := (sml n d).den_pos; omega)
 have hq : (((sml n d).num : Int) : Rat) = sml n d * (((sml n d).den : Int) : Rat) := by
  have h1 : sml n d = ((sml n d).num : Rat) / (((sml n d).den : Int) : Rat) := by
   rw [← Rat.divInt_eq_div, Rat.num_divInt_den]
  have h2 := Rat.div_mul_cancel (a := ((sml n d).num : Rat)) (b := (((sml n d).den : Int) : Rat)) (by grind)
  rw [← h1] at h2
  exact h2.symm
 have h3 : (((sml n d).num : Int) : Rat) ≤ ((30 : Int) : Rat) := Rat.intCast_le_intCast.2 (by omega)
 have h4 : ((-30 : Int) : Rat) ≤ (((sml n d).num : Int) : Rat) := Rat.intCast_le_intCast.2 (by omega)
 rw [show ((30 : Int) : Rat) = 30 from rfl] at h3
 rw [show ((-30 : Int) : Rat) = -30 from rfl] at h4
 generalize (((sml n d).num : Int) : Rat) = u at *
 generalize (((sml n d).den : Int) : Rat) = v at *
 generalize sml n d = w at *
 constructor
 ·refine Rat.not_lt.1 fun h => ?_
  have := Rat.mul_le_mul_of_nonneg_left hd (show 0 ≤ -30 - w by grind)
  grind
 ·refine Rat.not_lt.1 fun h => ?_
  have := Rat.mul_le_mul_of_nonneg_left hd (show 0 ≤ w - 30 by grind)
  grind
theorem vt_le (C : List ZX) (q : Rat) : vt C q ≤ C.length := by
 have := vr_le (sgs C q.num q.den)
 rw [vr_sgs] at this
 simpa [sgs] using this
end Go.Proofs.YtdiladmkbpnhoaaGreat
