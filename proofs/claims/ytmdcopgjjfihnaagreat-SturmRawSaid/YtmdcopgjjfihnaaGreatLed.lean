import Derived.Test.YtmdcopgjjfihnaaGreatLec
set_option linter.unusedSimpArgs false
set_option linter.unusedVariables false
namespace Go.Proofs.YtmdcopgjjfihnaaGreat
open Go Pm

/-! LAYERS, FACTORS, THE SQUAREFREE PART, WHAT STANDS AN ODD NUMBER OF TIMES. -/
def zp (a : ZX) : List PV := [Po a.l]
@[simp] theorem zp_def {a : ZX} : zp a = [Po a.l] := rfl
@[simp] theorem lenAll_zp {l : List ZX} : lenAll 1 (emap zp l) = True := lenAll_emap fun _ => rfl
@[simp] theorem app_zp {l : List ZX} {a : ZX} : emap zp l ++ [[sls ie a.l]] = emap zp (l ++ [a]) := by simp [emap]
@[simp] theorem rowPers_zp {v e n : Nat} {l : List ZX} : rowPers (some ⟨v, e, n, emap zp l⟩) = True := rowPers_emap fun _ => rfl
theorem BZ.der {h n : Nat} {a : ZX} (b : BZ h n a) (hn : n ≤ 31) : BZ (h + 5) n (ZX.der a) := Bd.cut ⟨by have := b.len; simp [ZX.derL]; omega, fun c hc => by
  simp only [ZX.derL, List.mem_map, List.mem_range] at hc
  obtain ⟨i, hi, rfl⟩ := hc
  have := b.len
  exact sz_mul (by decide) (b.nth _) (sz_le (k := 5) (by decide) (by rw [Int.natAbs_natCast]; show i + 1 < 32; omega))⟩
theorem deg_ret {h n : Nat} {a : ZX} (b : BZ h n a) (hn : n < 1099511627776) : Ret env.P 177 [Po a.l] (.int .i64 ((ZX.N a : Int) - 1)) := DegI_ret a.l (by have := b.len; omega)
/-- How great everything gets that comes of layers. -/
structure Lay (s n : Nat) (a : ZX) : Prop where
  bz : BZ s n a
  hn : n ≤ 20
  hs : n + 1 ≤ 2 ^ s
  hC : (qb s n + n + 6) * 4 ^ n ≤ 4500000000
theorem Lay.qb_le {s n : Nat} {a : ZX} (h : Lay s n a) : qb s n + n + 6 ≤ 4500000000 := Nat.le_trans (Nat.le_mul_of_pos_right _ (Nat.pow_pos (by decide))) h.hC
theorem Lay.dv {s n : Nat} {a c : ZX} (h : Lay s n a) (ha : Nf a) (hc : Nf c) (hd : ZX.dv c a) : BZ (qb s n) n c := dv_bd ha hc hd h.bz h.hs
theorem Lay.nfz {s n : Nat} {a : ZX} (h : Lay s n a) : Lay s n (nf a) := ⟨h.bz.nf, h.hn, h.hs, h.hC⟩
theorem Lay.gdz {s n : Nat} {a c : ZX} (h : Lay s n a) (ha : Nf a) (hc : Nf c) (hd : ZX.dv c a) : Ret env.P 179 [Po c.l, Po (ZX.der c).l] (Po (gd c).l) ∧ Ret env.P 110 [Po c.l] (Po (ZX.der c).l) ∧ Ret env.P 178 [Po c.l, Po (gd c).l] (Po (qz c (gd c)).l) := by
  have b := h.dv ha hc hd
  have b2 := b.der (by have := h.hn; omega)
  have hq := h.qb_le
  have hn := h.hn
  have bg := h.dv ha (gd_Nf hc.ne) ((gd_dv c).trans hd)
  refine ⟨two_ret (s := qb s n + 5) (b.mono (by omega) (Nat.le_refl _)) b2 ?_ h.hn (C := 4500000000) (Nat.le_refl _), Derive_ret b (by omega) (by omega), quo_ret b bg hc (gd_Nf hc.ne) (gd_dv c) (by
    have : n * (qb s n + n + 1) ≤ 20 * 4500000000 := Nat.mul_le_mul hn (by omega)
    omega)⟩
  have hN := ZX.N_der c
  have h1 : ZX.N c ≤ n := b.N
  have h2 := ZX.ne_zero.1 hc.ne
  unfold Pot
  rw [N_nf, N_nf, if_pos (by omega)]
  refine Nat.le_trans (Nat.mul_le_mul (show qb s n + 5 + n + 1 ≤ qb s n + n + 6 by omega) (Nat.pow_le_pow_right (by decide) h1)) h.hC
theorem wz_small {s n : Nat} {a : ZX} (hA : Lay s n a) (na : Nf a) (k : Nat) : BZ (qb s n) n (wz a k) := hA.dv na (wz_spec na k).1 (wz_dv_a na k)
theorem nth_map_range (f : Nat → ZX) {m i : Nat} (h : i < m) : nth ((List.range m).map f) i = f i := by
  rw [nth_eq (by simpa using h)]; simp
theorem nl_Nf {a : ZX} (h : 0 < nl (nf a)) : Nf (nf a) := by
  have h1 := (nl_spec (nf a)).2 0 h
  exact nf_Nf fun h0 => by
    rw [h0, nf_zero] at h1
    have h2 : ZX.N (gs 0 0) = 0 := by decide
    omega
end Go.Proofs.YtmdcopgjjfihnaaGreat
