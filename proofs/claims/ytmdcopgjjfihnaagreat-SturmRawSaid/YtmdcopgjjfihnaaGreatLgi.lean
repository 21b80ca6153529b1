import Derived.Test.YtmdcopgjjfihnaaGreatLgh
import Derived.Test.YtmdcopgjjfihnaaGreatLgc
import Derived.Test.YtmdcopgjjfihnaaGreatMr
set_option linter.unusedSimpArgs false
set_option linter.unusedVariables false
namespace Go.Proofs.YtmdcopgjjfihnaaGreat
open Go Pm
open ZX hiding N W

/-! STURM'S CHAIN, BY THE PROGRAM. -/
theorem nth_der {a : ZX} (h : 2 ≤ ZX.N a) : nth (der a).l (ZX.N a - 2) = lead a.l * ((ZX.N a - 1 : Nat) : Int) := by
  have h1 : a.l.length = ZX.N a := rfl
  have h2 : nth (der a).l (ZX.N a - 2) = nth a.l (ZX.N a - 1) * ((ZX.N a - 1 : Nat) : Int) := by
    show nth (cutR (derL a.l)) _ = _
    rw [nth_cutR, derL, nth_eq (by simp; omega)]
    simp only [List.getElem_map, List.getElem_range]
    rw [show ZX.N a - 2 + 1 = ZX.N a - 1 by omega]
  rw [h2, lead, h1]
theorem N_der_eq {a : ZX} (h : 2 ≤ ZX.N a) : ZX.N (der a) = ZX.N a - 1 := by
  have h1 := N_der a
  have h2 := nth_der h
  have hl := lead_ne a.c (show 0 < a.l.length from by have : a.l.length = ZX.N a := rfl; omega)
  have h3 : nth (der a).l (ZX.N a - 2) ≠ 0 := by rw [h2]; exact Int.mul_ne_zero hl (by omega)
  rcases Nat.lt_or_ge (ZX.N a - 2) (der a).l.length with h4 | h4
  · have : ZX.N (der a) = (der a).l.length := rfl
    omega
  · exact absurd (nth_ge h4) h3
theorem lead_der {a : ZX} (h : 2 ≤ ZX.N a) : lead (der a).l = lead a.l * ((ZX.N a - 1 : Nat) : Int) := by
  rw [← nth_der h, lead, show (der a).l.length = ZX.N (der a) from rfl, N_der_eq h, show ZX.N a - 1 - 1 = ZX.N a - 2 by omega]
theorem der_small {a : ZX} (h : ZX.N a ≤ 1) : der a = 0 := by
  refine Classical.byContradiction fun h0 => ?_
  have h1 := ZX.ne_zero.1 h0
  have := N_der a
  omega
theorem prv_der {f : ZX} (hf : Nf f) : prv (der f).l = (ps1 (der f)).l := by
  have h : ¬ lead (der f).l < 0 := by
    rcases Nat.lt_or_ge (ZX.N f) 2 with h2 | h2
    · rw [der_small (by omega)]; decide
    · rw [lead_der h2]
      have := Int.mul_nonneg (Int.le_of_lt hf.l) (show (0 : Int) ≤ ((ZX.N f - 1 : Nat) : Int) by omega)
      omega
  show _ = prim (der f).l
  rw [prim_prv, if_neg h]
theorem New_ret {α : Type} {g : α → List PV} {l : List α} {s n : Nat} {f : ZX} (hS : Ret env.P 108 [sls g l] (Po f.l)) (h : Ch s n f) (hf : Nf f) : Ret env.P 45 [sls g l] (.tup [CH (chn f), .int .i64 0]) := by
  have hn := h.hn
  have hp := h.pot
  have hs := hp.le
  have bd : BZ (s + 5) n (der f) := h.bz.der (by omega)
  have d1 := Derive_ret h.bz (by omega) (by omega)
  have d2 := Primitive_ret ((der f).l.map rw') (bd.pok (by omega) (by omega)) (s := s + 5) (n := n) (by rw [map_gv_rw]; exact bdL bd) (by omega) (by omega)
  rw [cfs_l, ← Po_eq, prv_der hf] at d2
  have b2 : BZ (s + 5) n (ps1 (der f)) := prim_bd2 bd
  have b1 : BZ (s + 5) n f := h.bz.mono (by omega) (Nat.le_refl _)
  have hN2 : ZX.N (ps1 (der f)) ≤ ZX.N f := Nat.le_trans (prim_len _) (Nat.le_trans (N_der f) (by omega))
  have hc : chn f = f :: chT (ZX.N f) f (ps1 (der f)) := rfl
  rw [chT_ge hN2 (Nat.le_refl _)] at hc
  have hf0 : f.l.length ≠ 0 := by have := ZX.ne_zero.1 hf.ne; exact Nat.pos_iff_ne_zero.1 this
  have hf1 : ¬ f.l = [] := fun h0 => hf0 (by rw [h0]; rfl)
  generalize hC : chn f = C at *
  generalize ps1 (der f) = g0 at *
  generalize pcn (der f).l = pc at *
  generalize (der f).l = dl at *
  refine ret_of_Wf (E := env) (fun _ => 0) [(0, sls g l)] Tryz.func45 rfl (by kernel_rfl) (by kernel_rfl) (show 1 ≤ 48 by decide) (by simp) ?_
  refine W.sreg (fun K hK => ?_); simp (disch := omega) [gA, wA]; refine W.lv [0] hK fun J j => ?_; clear hK K; simp; refine j _ ?_; clear j J
  refine W.sreg (fun K hK => ?_)
  simp (disch := omega) [gA, wA]
  refine callR hS ?_
  simp (disch := omega) [gA, wA]
  refine W.lv [4] hK fun J j => ?_; clear hK K; simp; refine j _ ?_; clear j J
  refine W.seq ?_
  refine W.sreg (fun K hK => ?_); simp (disch := omega) [gA, wA]; refine W.lv [4, 14] hK fun J j => ?_; clear hK K; simp; refine j _ ?_; clear j J
  refine W.cond ⟨_, rfl, fun h => ?_, fun h => ?_⟩
  · simp at h; exact absurd h hf1
  refine W.skip ?_
  refine W.sregLB 1 rfl rfl rfl (fun K hK => ?_)
  simp (disch := omega) [gA, wA]
  refine W.lv [4, 5] hK fun J j => ?_; clear hK K; simp; refine j _ ?_; clear j J
  refine W.sreg (fun K hK => ?_)
  simp (disch := omega) [gA, wA]
  refine callR d1 ?_
  simp (disch := omega) [gA, wA]
  refine callR d2 ?_
  simp (disch := omega) [gA, wA]
  refine W.lv [4, 5, 7] hK fun J j => ?_; clear hK K; simp; refine j _ ?_; clear j J
  refine W.seq ?_
  refine W.block ?_
  refine W.loopG (fun k σ => ∃ (L : List ZX) (x y : ZX) (i ver v18 e18 s : Nat) (rows : Pm.Rows) (clk : Nat), σ = ⟨fa [(4, Po x.l), (5, .ptr 18 v18 0 0), (7, Po y.l)], rows, clk⟩ ∧ rows 16 = some ⟨ver, 24, 1, emap zp L⟩ ∧ rows 18 = some ⟨v18, e18, 1, [[.own 16 ver 0 (i + 1)]]⟩ ∧ L.length = i + 1 ∧
    L ++ chT k x y = C ∧ k = ZX.N y ∧ BZ s n x ∧ BZ s n y ∧ Pot 4500000000 n s x y ∧ i + ZX.N y ≤ 20) (ZX.N g0) ?_ ?_
  · exact ⟨_, .refl, [f], f, g0, 0, _, _, _, s + 5, _, _, rfl, by simp [emap]; (first | exact rfl | exact ⟨rfl, rfl⟩), by simp; (first | exact rfl | exact ⟨rfl, rfl⟩ | exact ⟨rfl, rfl, rfl⟩), rfl, hc.symm, rfl, b1, b2, hp, by have := b2.N; omega⟩
  rintro k _ ⟨L, x, y, i, ver, v18, e18, s, rows, clk, rfl, hr16, hr18, hL, hcc, rfl, bx, by_, hp, hiN⟩
  have hs := hp.le
  have hlx := bx.len
  have hly := by_.len
  have hLl : (emap zp L).length = i + 1 := by simp [emap, hL]
  refine W.seq ?_
  refine W.sreg (fun K hK => ?_); simp (disch := omega) [gA, wA]; refine W.lv [4, 5, 7, 27] hK fun J j => ?_; clear hK K; simp; refine j _ ?_; clear j J
  refine W.cond ⟨_, rfl, fun h => ?_, fun h => ?_⟩
  · have hy : y ≠ 0 := ZX.ne_zero.2 (by show 0 < y.l.length; simp at h; omega)
    have hR := Rest_ret (x.l.map rw') (y.l.map rw') (bx.pok (by omega) (by omega)) (by_.pok (by omega) (by omega)) (s := s) (s' := s) (N := n) (by rw [map_gv_rw]; exact bdL bx) (by rw [map_gv_rw]; exact bdL by_) (by
      have : n * (s + n + 1) ≤ 20 * 4500000000 := Nat.mul_le_mul hn hs
      omega)
    rw [cfs_l, cfs_l, if_neg (ne_l hy), ← Po_eq, ← Po_eq] at hR
    have br := rz_bd bx by_ hy
    have hmul2 : (ZX.N x + 1 - ZX.N y) * (s + n + 1) ≤ 22 * 4500000000 := Nat.mul_le_mul (by have : ZX.N x = x.l.length := rfl; omega) (by omega)
    have hrz : rst x.l y.l = (ps1 (rz x y)).l := by
      obtain ⟨hrl, hN, _⟩ := rz_spec (a := x) hy
      obtain ⟨m, q, hm, e⟩ := rq_pos y.c (ZX.ne_zero.1 hy) (x.l.length + 1) x.l x.c (by omega)
      rw [← hrl] at e
      exact rst_uniq x.c y.c (ZX.ne_zero.1 hy) (rz x y).c hN hm e
    rw [hrz] at hR
    have hNg := pNegI_ret (x := (ps1 (rz x y)).l) (PB.of (bdL (prim_bd2 br)) (by omega) (by omega))
    have e3 : pneg (ps1 (rz x y)).l = (nx x y).l := rfl
    rw [e3] at hNg
    have hN2 := nx_N (a := x) hy
    have hp2 := hp.step hN2
    have bn := nx_bd bx by_ hy
    have hch : L ++ [y] ++ chT (ZX.N (nx x y)) y (nx x y) = C := by
      rw [← hcc]
      obtain ⟨j, hj⟩ : ∃ j, ZX.N y = j + 1 := ⟨ZX.N y - 1, by have := ZX.ne_zero.1 hy; have : ZX.N y = y.l.length := rfl; omega⟩
      rw [hj, chT, if_neg (by omega), chT_ge (k := j) (j := ZX.N (nx x y)) (by omega) (Nat.le_refl _)]
      simp
    generalize (ps1 (rz x y)).l = pl at *
    generalize hnx : nx x y = nn at *
    refine W.skip ?_
    refine W.block ?_
    refine W.sreg (fun K hK => ?_)
    simp (disch := omega) [gA, wA, hr16, hr18, hLl]
    refine W.lv [4, 5, 7] hK fun J j => ?_; clear hK K; simp; refine j _ ?_; clear j J
    refine W.sreg (fun K hK => ?_)
    simp (disch := omega) [gA, wA]
    refine callR hR ?_
    simp (disch := omega) [gA, wA]
    refine W.lv [5, 7, 8] hK fun J j => ?_; clear hK K; simp; refine j _ ?_; clear j J
    refine W.reg (fun K hK => ?_)
    simp (disch := omega) [gA, wA]
    refine callR hNg ?_
    simp (disch := omega) [gA, wA]
    refine hK _ ⟨ZX.N nn, _, Gh_fa _ [4, 5, 7], hN2, L ++ [y], y, nn, i + 1, _, v18, e18, _, _, _, rfl, by simp; first | exact rfl | skip, by simp; first | exact rfl | skip, by simp [hL], hch, rfl, by_.mono (by omega) (Nat.le_refl _), bn, hp2, by omega⟩
  · have hy : y = 0 := by
      refine Classical.byContradiction fun h0 => ?_
      have h1 := ZX.ne_zero.1 h0
      have h2 : ZX.N y = y.l.length := rfl
      simp at h; rw [h2, h] at h1; simp at h1
    subst hy
    rw [chT_zero, List.append_nil] at hcc
    subst hcc
    have htk : List.take (i + 1) L = L := List.take_of_length_le (by omega)
    refine W.exit ?_; simp only [pX, if_true, if_false, reduceIte, Nat.reduceEqDiff]
    refine W.freezeC 16 (by rw [hr16]; simp) (fun K hK => ?_)
    simp [hr16]
    refine hK _ ?_
    have hr18' : frC2 rows 16 18 = some ⟨v18, e18, 1, [[sls zp L]]⟩ := by
      simp [hr18, hr16, hLl, htk]
    clear hr16 hr18
    generalize frC2 rows 16 = rows2 at *
    refine W.sreg (fun K hK => ?_); simp (disch := omega) [gA, wA]; refine W.lv [2, 3] hK fun J j => ?_; clear hK K; simp; refine j _ ?_; clear j J
    refine W.ret ?_
    simp [go, hr18']
end Go.Proofs.YtmdcopgjjfihnaaGreat
