import Derived.Test.YtdiladmkbpnhoaaGreatLeh
import Derived.Test.YtdiladmkbpnhoaaGreatLga
set_option linter.unusedSimpArgs false
set_option linter.unusedVariables false
namespace Go.Proofs.YtdiladmkbpnhoaaGreat
open Go Pm
open ZX hiding N W
theorem rq_pos {y : List Int} (cy : Cn y) (hy : 0 < y.length) : ∀ (n : Nat) (x : List Int), Cn x → x.length < n → ∃ (m : Int) (q : List Int), 0 < m ∧ ∀ t, m * V t x = V t q * V t y + V t (rq y n x)
 | 0, x, _, h => by omega
 | n + 1, x, cx, h => by
  rw [rq]
  split
  ·exact ⟨1, [], by decide, fun t => by simp [V]⟩
  ·rename_i h1
   have hl := rq1_len hy (show y.length ≤ x.length by omega)
   obtain ⟨m, q, hm, h4⟩ := rq_pos cy hy n (rq1 y x) (Cn.psub _ _) (by omega)
   have hl0 := lead_ne cy hy
   refine ⟨m * (lead y).natAbs, padd q (pscale (stp (x.length - y.length) (sgn (lead y) * lead x)) m), Int.mul_pos hm (by omega), fun t => ?_⟩
   have h5 := V_rq1 t y x
   have h6 := h4 t
   rw [V_padd, V_pscale, V_stp]
   have : m * ((lead y).natAbs : Int) * V t x = m * (((lead y).natAbs : Int) * V t x) := by grind
   rw [this, h5]
   grind
theorem rst_uniq {x y s q : List Int} {D : Int} (cx : Cn x) (cy : Cn y) (hy : 0 < y.length) (cs : Cn s) (hs : s.length < y.length) (hD : 0 < D) (hv : ∀ t, D * V t x = V t q * V t y + V t s) : rst x y = prim s := by
 have hV := fun t => V_pdm t x y
 have hl := pdm_len (a := x) hy
 obtain ⟨c1, c2⟩ := pdm_Cn (b := y) cx
 rw [rst_sg cx]
 have hl0 := lead_ne cy hy
 have hc0 : lead y ^ psk x y ≠ 0 := Int.pow_ne_zero hl0
 have hsg := pow_sg (lead y) (psk x y)
 have hsq := sg_mul (lead y) (psk x y)
 generalize sg (lead y) (psk x y) = g at *
 generalize (pdm x y).1 = p at *
 generalize (pdm x y).2 = r at *
 generalize hc : lead y ^ psk x y = c at *
 have hm : 0 < ((lead y).natAbs : Int) ^ psk x y := Int.pow_pos (by omega)
 generalize ((lead y).natAbs : Int) ^ psk x y = m at *
 have e : ∀ t, V t (psub (s.map (· * c)) (r.map (· * D))) = V t y * V t (psub (p.map (· * D)) (q.map (· * c))) := fun t => by
  have h1 := hv t
  have h2 := hV t
  rw [V_psub, V_psub, V_mapmul, V_mapmul, V_mapmul, V_mapmul]
  have h3 : c * (D * V t x) = c * (V t q * V t y + V t s) := by rw [h1]
  have h4 : D * (V t p * V t y + V t r) = D * (c * V t x) := by rw [h2]
  grind
 have h1 := mul_small (Cn.psub _ _) cy hy e (by
  have := psub_len (s.map (· * c)) (r.map (· * D))
  simp only [List.length_map] at this
  omega)
 have hD0 : D ≠ 0 := by omega
 have e1 : s.map (· * c) = r.map (· * D) := Cn.ext (Cn_map_mul cs hc0) (Cn_map_mul c2 hD0) fun t => V_eq_cut (by rw [h1]; rfl) t
 rw [← prim_pscale cs hm, ← prim_pscale (Cn.pscale r g) hD]
 congr 1
 refine Cn.ext (Cn.pscale _ _) (Cn.pscale _ _) fun t => ?_
 have e2 : V t s * c = V t r * D := by rw [← V_mapmul, e1, V_mapmul]
 rw [V_pscale, V_pscale, V_pscale]
 have h5 : m = g * c := by rw [hsg]; grind
 rw [h5]
 have : V t s * (g * c) = g * (V t s * c) := by grind
 rw [this, e2]; grind
def ps1 (a : ZX) : ZX := ⟨prim a.l, Cn.cut _⟩
def nx (a b : ZX) : ZX := ⟨pneg (prim (rz a b).l), Cn.pneg _⟩
theorem nx_rst {a b : ZX} (hb : b ≠ 0) : pneg (rst a.l b.l) = (nx a b).l := by
 obtain ⟨hrl, hN, _⟩ := rz_spec (a := a) hb
 obtain ⟨m, q, hm, e⟩ := rq_pos b.c (ZX.ne_zero.1 hb) (a.l.length + 1) a.l a.c (by omega)
 rw [← hrl] at e
 rw [rst_uniq a.c b.c (ZX.ne_zero.1 hb) (rz a b).c hN hm e]; rfl
theorem nx_N {a b : ZX} (hb : b ≠ 0) : ZX.N (nx a b) < ZX.N b := by
 obtain ⟨_, hN, _⟩ := rz_spec (a := a) hb
 have h1 := pneg_len (prim (rz a b).l)
 have h2 := prim_len (rz a b).l
 have h3 : ZX.N (nx a b) = (pneg (prim (rz a b).l)).length := rfl
 have h4 : ZX.N (rz a b) = (rz a b).l.length := rfl
 omega
theorem nx_bd {s n : Nat} {a b : ZX} (ha : BZ s n a) (hb : BZ s n b) (h0 : b ≠ 0) : BZ (s + (ZX.N a + 1 - ZX.N b) * (s + n + 1)) n (nx a b) := Bd.pneg (prim_bd2 (rz_bd ha hb h0))
def chT : Nat → ZX → ZX → List ZX
 | 0, _, _ => []
 | k + 1, a, b => if ZX.N b = 0 then [] else b :: chT k b (nx a b)
theorem chT_zero (k : Nat) (a : ZX) : chT k a 0 = [] := by cases k <;> simp [chT, show ZX.N 0 = 0 by decide]
theorem chT_ge : ∀ {k j : Nat} {a b : ZX}, ZX.N b ≤ k → ZX.N b ≤ j → chT k a b = chT j a b
 | 0, j, a, b, h, _ => by
  have : b = 0 := Classical.byContradiction fun h0 => by have := ZX.ne_zero.1 h0; omega
  rw [this, chT_zero, chT_zero]
 | k + 1, 0, a, b, _, h => by
  have : b = 0 := Classical.byContradiction fun h0 => by have := ZX.ne_zero.1 h0; omega
  rw [this, chT_zero, chT_zero]
 | k + 1, j + 1, a, b, h1, h2 => by
  rw [chT, chT]
  split
  ·rfl
  ·rename_i h0
   have := nx_N (a := a) (ZX.ne_zero.2 (Nat.pos_of_ne_zero h0))
   rw [chT_ge (k := k) (j := j) (by omega) (by omega)]
def chn (f : ZX) : List ZX := f :: chT (ZX.N f) f (ps1 (der f))
theorem PP_one (x : List Int) : PP (qd x 1) = PI x := by rw [qd_one]; show PV.sl (emap re (qs x)) = PV.sl (emap ri x); rw [emap_re_qs]
theorem qSizedZ_ret {s n : Nat} {a : ZX} (b : BZ s n a) (hs1 : 1 ≤ s) (hs : s ≤ YY) (hn : n < 1099511627776) : Ret env.P 161 [PI a.l] (PI (ps1 a).l) := by
 have := qSizedQ_ret a.l 1 (by decide) b (by exact Nat.le_trans (sz_le (k := 1) (by decide) (by decide)) hs1) a.c hs1 hs hn
 rw [show ((1 : Nat) : Int) = 1 from rfl, PP_one] at this
 exact this
structure Ch (s n : Nat) (f : ZX) : Prop where
 bz : BZ s n f
 hn : n ≤ 20
 hn1 : 1 ≤ n
 hC : (s + 5 + n + 1) * 4 ^ n ≤ 4500000000
theorem Ch.pot {s n : Nat} {f : ZX} (h : Ch s n f) : Pot 4500000000 n (s + 5) f (ps1 (der f)) := by
 have h1 := N_der f
 have h2 : ZX.N (ps1 (der f)) ≤ ZX.N (der f) := prim_len _
 have h3 := h.bz.N
 have hn := h.hn1
 unfold Pot
 split
 ·exact Nat.le_trans (Nat.mul_le_mul_left _ (Nat.pow_le_pow_right (by decide) h3)) h.hC
 ·have h4 : ZX.N (ps1 (der f)) = 0 := by omega
  have h5 := h.hC
  rw [h4, Nat.pow_zero, Nat.mul_one]
  exact Nat.le_trans (Nat.mul_le_mul_left _ (show 2 ≤ 4 ^ n from Nat.le_trans (by decide) (Nat.pow_le_pow_right (n := 4) (by decide) hn))) h5
theorem nth_app1 {l : List ZX} {a : ZX} {i : Nat} (h : i < l.length) : nth (l ++ [a]) i = nth l i := by
 simp only [nth, List.getElem?_append_left h]
theorem qChain_retC {s n : Nat} {a f : ZX} (hS : Ret env.P 68 [PI a.l] (PI f.l)) (h : Ch s n f) (h1 : 1 ≤ s) : Ret env.P 89 [PI a.l] (sls zq (chn f)) := by
 have hn := h.hn
 have hp := h.pot
 have hs := hp.le
 have bd : BZ (s + 5) n (der f) := h.bz.der (by omega)
 have d1 := qDeriveZ_ret h.bz (by show s ≤ 137438953472; omega) (by omega)
 have d2 := qSizedZ_ret bd (by omega) (by show s + 5 ≤ 137438953472; omega) (by omega)
 have b2 : BZ (s + 5) n (ps1 (der f)) := prim_bd2 bd
 have b1 : BZ (s + 5) n f := h.bz.mono (by omega) (Nat.le_refl _)
 have hN2 : ZX.N (ps1 (der f)) ≤ ZX.N f := Nat.le_trans (prim_len _) (Nat.le_trans (N_der f) (by omega))
 have hc : chn f = f :: chT (ZX.N f) f (ps1 (der f)) := rfl
 rw [chT_ge hN2 (Nat.le_refl _)] at hc
 generalize hC : chn f = C at *
 generalize ps1 (der f) = g0 at *
 generalize (der f).l = dl at *
 have hfl : f.l = f.l := rfl
 refine ret_of_Wf (E := env) (fun _ => 0) [(0, PI a.l)] Tryz.func89 rfl (by kernel_rfl) (by kernel_rfl) (show 1 ≤ 31 by decide) (by simp) ?_
 refine W.sreg (fun K hK => ?_); simp (disch := omega) [gA, wA]; refine W.lv [0] hK fun J j => ?_; clear hK K; simp; refine j _ ?_; clear j J
 refine W.sreg (fun K hK => ?_)
 simp (disch := omega) [gA, wA]
 refine callR hS ?_
 simp (disch := omega) [gA, wA]
 refine W.lv [3] hK fun J j => ?_; clear hK K; simp; refine j _ ?_; clear j J
 refine W.sregL 1 rfl rfl (fun K hK => ?_)
 simp (disch := omega) [gA, wA]
 refine W.lv [3, 4] hK fun J j => ?_; clear hK K; simp; refine j _ ?_; clear j J
 refine W.sreg (fun K hK => ?_)
 simp (disch := omega) [gA, wA]
 refine callR d1 ?_
 simp (disch := omega) [gA, wA]
 refine callR d2 ?_
 simp (disch := omega) [gA, wA]
 refine W.lv [4, 5] hK fun J j => ?_; clear hK K; simp; refine j _ ?_; clear j J
 refine W.seq ?_
 refine W.block ?_
 refine W.loopG (fun k σ => ∃ (L : List ZX) (x g : ZX) (i ver s : Nat) (rows : Pm.Rows) (clk : Nat), σ = ⟨fa [(4, .own 9 ver 0 (i + 1)), (5, PI g.l)], rows, clk⟩ ∧ rows 9 = some ⟨ver, 36, 1, emap zq L⟩ ∧ L.length = i + 1 ∧ nth L i = x ∧
  L ++ chT k x g = C ∧ k = ZX.N g ∧ BZ s n x ∧ BZ s n g ∧ 1 ≤ s ∧ Pot 4500000000 n s x g ∧ i + ZX.N g ≤ 20) (ZX.N g0) ?_ ?_
 ·exact ⟨_, .refl, [f], f, g0, 0, _, s + 5, _, _, rfl, by simp [emap], rfl, rfl, hc.symm, rfl, b1, b2, by omega, hp, by have := b2.N; omega⟩
 rintro k _ ⟨L, x, g, i, ver, s, rows, clk, rfl, hr, hL, hx, hcc, rfl, bx, bg, h1, hp, hiN⟩
 have hs := hp.le
 have hlx := bx.len
 have hlg := bg.len
 have hLl : (emap zq L).length = i + 1 := by simp [emap, hL]
 refine W.seq ?_
 refine W.sreg (fun K hK => ?_); simp (disch := omega) [gA, wA]; refine W.lv [4, 5, 15] hK fun J j => ?_; clear hK K; simp; refine j _ ?_; clear j J
 refine W.cond ⟨_, rfl, fun h => ?_, fun h => ?_⟩
 ·have hg : g ≠ 0 := ZX.ne_zero.2 (by show 0 < g.l.length; simp at h; omega)
  obtain ⟨hrl, hN, _⟩ := rz_spec (a := x) hg
  have br := rz_bd bx bg hg
  have hmul : (x.l.length + 1 - g.l.length + 1) * (s + n + 1) ≤ 22 * 4500000000 := Nat.mul_le_mul (by omega) (by omega)
  have hmul2 : (ZX.N x + 1 - ZX.N g) * (s + n + 1) ≤ 22 * 4500000000 := Nat.mul_le_mul (by have : ZX.N x = x.l.length := rfl; omega) (by omega)
  have hR := qrest_ret (s := s) (s' := s) (N := n) bx bg x.c g.c (ZX.ne_zero.1 hg) (by omega) (by show _ < 137438953472; omega)
  rw [← hrl] at hR
  have hZ := qSizedZ_ret br (by omega) (by show _ ≤ 137438953472; omega) (by omega)
  have hNg := qNegI_ret (ps1 (rz x g)).l ((prim_bd2 br).mono (by show _ ≤ 137438953472; omega) (by omega))
  have e3 : pneg (ps1 (rz x g)).l = (nx x g).l := rfl
  rw [e3] at hNg
  have hN2 := nx_N (a := x) hg
  have hp2 := hp.step hN2
  have bn := nx_bd bx bg hg
  have hi : i < L.length := by omega
  have hx2 : nth (L ++ [g]) i = x := by rw [nth_app1 hi]; exact hx
  have hlen2 : i < (L ++ [g]).length := by simp; omega
  have hch : L ++ [g] ++ chT (ZX.N (nx x g)) g (nx x g) = C := by
   rw [← hcc]
   obtain ⟨j, hj⟩ : ∃ j, ZX.N g = j + 1 := ⟨ZX.N g - 1, by have := ZX.ne_zero.1 hg; have : ZX.N g = g.l.length := rfl; omega⟩
   rw [hj, chT, if_neg (by omega), chT_ge (k := j) (j := ZX.N (nx x g)) (by omega) (Nat.le_refl _)]
   simp
  generalize (rz x g).l = rl at *
  generalize (ps1 (rz x g)).l = pl at *
  generalize hnx : nx x g = nn at *
  have hnl : nn.l = nn.l := rfl
  refine W.skip ?_
  refine W.block ?_
  refine W.sreg (fun K hK => ?_)
  simp (disch := omega) [gA, wA, hr, hLl]
  refine W.lv [4, 5] hK fun J j => ?_; clear hK K; simp; refine j _ ?_; clear j J
  have e1 : ((i : Int) + 1 + 1 - 2).toNat = i := by omega
  refine W.reg (fun K hK => ?_)
  simp (disch := omega) [gA, wA, e1, hlen2, hx2]
  refine callR hR ?_
  simp (disch := omega) [gA, wA]
  refine callR hZ ?_
  simp (disch := omega) [gA, wA]
  refine callR hNg ?_
  simp (disch := omega) [gA, wA]
  refine hK _ ⟨ZX.N nn, _, Gh_fa _ [4, 5], hN2, L ++ [g], g, nn, i + 1, _, _, _, _, rfl, by simp, by simp [hL], ?_, hch, rfl, bg.mono (by omega) (Nat.le_refl _), bn, by omega, hp2, by omega⟩
  rw [nth_eq (by simp; omega)]
  simp [← hL]
 ·have hg : g = 0 := by
   refine Classical.byContradiction fun h0 => ?_
   have h1 := ZX.ne_zero.1 h0
   have h2 : ZX.N g = g.l.length := rfl
   simp at h; rw [h2, h] at h1; simp at h1
  subst hg
  rw [chT_zero, List.append_nil] at hcc
  subst hcc
  have htk : List.take (i + 1) L = L := List.take_of_length_le (by omega)
  refine W.exit ?_; simp only [pX, if_true, if_false, reduceIte, Nat.reduceEqDiff]
  refine W.sreg (fun K hK => ?_); simp (disch := omega) [gA, wA]; refine W.lv [2] hK fun J j => ?_; clear hK K; simp; refine j _ ?_; clear j J
  refine W.ret ?_
  simp [go, hr, hLl, htk]
end Go.Proofs.YtdiladmkbpnhoaaGreat
