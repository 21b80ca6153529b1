import Derived.Test.YtdiladmkbpnhoaaGreatLea
set_option linter.unusedSimpArgs false
set_option linter.unusedVariables false
namespace Go.Proofs.YtdiladmkbpnhoaaGreat
open Go Pm
theorem sz_LL_le (v : Int) : sz LL v ≤ sz 2 v := sz_le hLL (Nat.lt_of_lt_of_le (sz_lt (b := 2) (by decide) v) (Nat.pow_le_pow_left (by decide) _))
theorem bdL {h n : Nat} {x : List Int} (hx : Bd 2 h n x) : Bd LL h n x := ⟨hx.len, fun c hc => Nat.le_trans (sz_LL_le c) (hx.sz c hc)⟩
instance : Inhabited ZX := ⟨0⟩
abbrev BZ (h n : Nat) (a : ZX) : Prop := Bd 2 h n a.l
theorem BZ.pb {h n : Nat} {a : ZX} (b : BZ h n a) (hh : h < 1099511627775) (hn : n < 1099511627775) : PB a.l := PB.of (bdL b) hh hn
theorem BZ.pok {h n : Nat} {a : ZX} (b : BZ h n a) (hh : h < 1099511627775) (hn : n < 1099511627775) : POK (a.l.map rw') := (b.pb hh hn).pok
theorem cfs_l (a : ZX) : cfs (a.l.map rw') = a.l := by rw [cfs_rwB]; exact a.c
theorem BZ.mono {h h' n n' : Nat} {a : ZX} (b : BZ h n a) (hh : h ≤ h') (hn : n ≤ n') : BZ h' n' a := Bd.mono b hh hn
theorem BZ.nf {h n : Nat} {a : ZX} (b : BZ h n a) : BZ h n (nf a) := prv_bd b
theorem BZ.N {h n : Nat} {a : ZX} (b : BZ h n a) : ZX.N a ≤ n := Bd.len b
theorem derc_ret {h n : Nat} {a : ZX} (b : BZ h n a) (hh : h < 1099511627774) (hn : n < 1099511627774) (k : Nat) (hk : k + 1 < a.l.length) : Ret env.P 188 [.int .i64 (k : Int), .rd [Po a.l]] (I (nth a.l (k + 1) * ((k + 1 : Nat) : Int))) := by
 have hlen := b.len
 have hz := (bdL b).nth (k + 1)
 have o1 := Of_ret ((k + 1 : Nat) : Int) (by omega) (by omega)
 have hk1 : Sz ((k + 1 : Nat) : Int) := Nat.lt_of_le_of_lt (sz_le (k := 2) hLL (by rw [Int.natAbs_natCast]; show k + 1 < 4294967296 ^ 2; omega)) (by decide)
 have m1 := wMulI (x := nth a.l (k + 1)) (y := ((k + 1 : Nat) : Int)) (by show Pm.sz LL _ < _; omega) hk1
 have e : ((k : Int) + 1).toNat = k + 1 := by omega
 rw [Int.natCast_add, Int.natCast_one] at o1 m1
 refine ret_of_Wf (E := env) (fun _ => 0) [(0, .int .i64 (k : Int)), (1, .rd [Po a.l])] Tryz.func188 rfl (by kernel_rfl) (by kernel_rfl) (show 2 ≤ 13 by decide) (by simp) ?_
 generalize a.l = x at *
 refine W.sreg (fun K hK => ?_); simp (disch := omega) [gA, wA]; refine W.lv [0, 1, 3] hK fun J j => ?_; clear hK K; simp; refine j _ ?_; clear j J
 refine W.sdrw (fun K hK => ?_)
 simp (disch := omega) [gA, wA, e]
 refine callR o1 ?_
 simp (disch := omega) [gA, wA]
 refine callR m1 ?_
 simp (disch := omega) [gA, wA]
 refine W.lv [3] hK fun J j => ?_; clear hK K; simp; refine j _ ?_; clear j J
 refine W.ret ?_
 simp [go]
theorem Derive_ret {h n : Nat} {a : ZX} (b : BZ h n a) (hh : h < 1099511627774) (hn : n < 1099511627774) : Ret env.P 115 [Po a.l] (Po (ZX.der a).l) := by
 have hlen := b.len
 have hc := fun k hk => derc_ret b hh hn k hk
 have hE := each_ret 188 rfl [.rd [Po a.l]] rfl (a.l.length - 1) (by omega) (fun k => nth a.l (k + 1) * ((k + 1 : Nat) : Int)) (fun k hk => hc k (by omega))
 have e0 : cutR ((List.range (a.l.length - 1)).map fun k => nth a.l (k + 1) * ((k + 1 : Nat) : Int)) = (ZX.der a).l := rfl
 rw [e0] at hE
 generalize (ZX.der a).l = d at *
 generalize a.l = x at *
 have e1 : (if (1 : Int) < (x.length : Int) then (x.length : Int) - 1 else 0) = ((x.length - 1 : Nat) : Int) := by split <;> omega
 refine ret_of_Wf (E := env) (fun _ => 0) [(0, Po x)] Tryz.func115 rfl (by kernel_rfl) (by kernel_rfl) (show 1 ≤ 9 by decide) (by simp) ?_
 refine W.sreg (fun K hK => ?_); simp (disch := omega) [gA, wA]; refine W.lv [1] hK fun J j => ?_; clear hK K; simp; refine j _ ?_; clear j J
 refine W.sreg (fun K hK => ?_)
 simp (disch := omega) [gA, wA, e1]
 refine callR hE ?_
 simp (disch := omega) [gA, wA]
 refine W.lv [2] hK fun J j => ?_; clear hK K; simp; refine j _ ?_; clear j J
 refine W.ret ?_
 simp [go]
theorem prime_retG {α : Type} {g : α → List PV} {l : List α} {c : Int} {d : List Int} (h1 : Ret env.P 114 [sls g l] (.tup [I c, Po d])) : Ret env.P 183 [sls g l] (Po d) := by
 refine ret_of_Wf (E := env) (fun _ => 0) [(0, sls g l)] Tryz.func183 rfl (by kernel_rfl) (by kernel_rfl) (show 1 ≤ 11 by decide) (by simp) ?_
 refine W.sreg (fun K hK => ?_); simp (disch := omega) [gA, wA]; refine W.lv [0] hK fun J j => ?_; clear hK K; simp; refine j _ ?_; clear j J
 refine W.sreg (fun K hK => ?_)
 simp (disch := omega) [gA, wA]
 refine callR h1 ?_
 simp (disch := omega) [gA, wA]
 refine W.lv [4] hK fun J j => ?_; clear hK K; simp; refine j _ ?_; clear j J
 refine W.sreg (fun K hK => ?_); simp (disch := omega) [gA, wA]; refine W.lv [2] hK fun J j => ?_; clear hK K; simp; refine j _ ?_; clear j J
 refine W.ret ?_
 simp [go]
theorem prime_ret {h n : Nat} {a : ZX} (b : BZ h n a) (hh : h < 1099511627774) (hn : n < 1099511627774) : Ret env.P 183 [Po a.l] (Po (nf a).l) := by
 have h1 := Primitive_ret (a.l.map rw') (b.pok (by omega) (by omega)) (s := h) (n := n) (by rw [map_gv_rw]; exact bdL b) hh hn
 rw [cfs_l, ← Po_eq] at h1
 exact prime_retG h1
theorem quo_ret {h h' n : Nat} {a c : ZX} (b : BZ h n a) (b' : BZ h' n c) (ha : Nf a) (hc : Nf c) (hd : ZX.dv c a) (hB : h + n * (h' + n + 1) + h' + n + n + 10 < 1099511627774) : Ret env.P 184 [Po a.l, Po c.l] (Po (qz a c).l) := by
 have h0 : ¬ c.l = [] := ne_l hc.ne
 have h1 := Exact_ret (a.l.map rw') (c.l.map rw') (b.pok (by omega) (by omega)) (b'.pok (by omega) (by omega)) (s := h) (s' := h') (N := n) (by rw [map_gv_rw]; exact bdL b) (by rw [map_gv_rw]; exact bdL b') hB
 rw [cfs_l, cfs_l, if_neg h0, qz_exact ha hc hd, ← Po_eq, ← Po_eq, exR] at h1
 generalize (qz a c).l = d at *
 generalize a.l = x at *
 generalize c.l = y at *
 refine ret_of_Wf (E := env) (fun _ => 0) [(0, Po x), (1, Po y)] Tryz.func184 rfl (by kernel_rfl) (by kernel_rfl) (show 2 ≤ 14 by decide) (by simp) ?_
 refine W.sreg (fun K hK => ?_); simp (disch := omega) [gA, wA]; refine W.lv [0, 1] hK fun J j => ?_; clear hK K; simp; refine j _ ?_; clear j J
 refine W.sreg (fun K hK => ?_)
 simp (disch := omega) [gA, wA]
 refine callR h1 ?_
 simp (disch := omega) [gA, wA]
 refine W.lv [5] hK fun J j => ?_; clear hK K; simp; refine j _ ?_; clear j J
 refine W.sreg (fun K hK => ?_); simp (disch := omega) [gA, wA]; refine W.lv [4] hK fun J j => ?_; clear hK K; simp; refine j _ ?_; clear j J
 refine W.ret ?_
 simp [go]
def rs (a c : ZX) : ZX := ⟨rst a.l c.l, rst_Cn _ _⟩
theorem prim_map {x : List Int} (cx : Cn x) (hx : x ≠ []) : (prim x).map (· * (gcdL x : Int)) = x := by
 have hg := gcdL_Cn_pos cx hx
 have h1 := div_out (g := (gcdL x : Int)) (fun c hc => gcdL_dvd x c hc)
 have h2 : Cn (x.map (exq (gcdL x))) := by
  have h3 : x.map (exq (gcdL x)) = cutR (x.map (exq (gcdL x))) := by
   refine (List.map_inj_right (f := fun v : Int => v * (gcdL x : Int)) (fun u v e => Int.eq_of_mul_eq_mul_right (by omega) e)).1 ?_
   rw [h1]
   refine Cn.ext cx (Cn_map_mul (Cn.cut _) (by omega)) fun t => ?_
   rw [V_mapmul, V_cutR, ← V_mapmul, h1]
  exact h3.symm
 rw [prim, show cutR (x.map (exq (gcdL x))) = _ from h2, h1]
theorem rs_spec {a c : ZX} (hc : c ≠ 0) : ∃ (m k : Int) (q : ZX), m ≠ 0 ∧ k ≠ 0 ∧ ZX.K m * a = q * c + ZX.K k * rs a c := by
 have h0 := ZX.ne_zero.1 hc
 obtain ⟨c1, c2⟩ := pdm_Cn (b := c.l) a.c
 have hm : lead c.l ^ psk a.l c.l ≠ 0 := Int.pow_ne_zero (lead_ne c.c h0)
 have hsg := sg_mul (lead c.l) (psk a.l c.l)
 have hr := rst_sg (b := c.l) a.c
 have hV := fun t => V_pdm t a.l c.l
 have hg : sg (lead c.l) (psk a.l c.l) ≠ 0 := fun h => by rw [h] at hsg; simp at hsg
 generalize sg (lead c.l) (psk a.l c.l) = g at *
 generalize lead c.l ^ psk a.l c.l = m at *
 have hl : (rs a c).l = prim (pscale (pdm a.l c.l).2 g) := hr
 generalize rs a c = R at *
 generalize (pdm a.l c.l).1 = q at *
 generalize (pdm a.l c.l).2 = r at *
 have hcp : Cn (pscale r g) := Cn.pscale _ _
 by_cases hz : pscale r g = []
 ·refine ⟨m, 1, ⟨q, c1⟩, hm, by decide, ZX.ext fun t => ?_⟩
  rw [hz] at hl
  have h1 : V t R.l = 0 := by rw [hl]; rfl
  have h2 : V t r = 0 := by
   have h3 : V t (pscale r g) = 0 := by rw [hz]; rfl
   rw [V_pscale] at h3
   rcases Int.mul_eq_zero.1 h3 with h4 | h4
   ·exact h4
   ·exact absurd h4 hg
  rw [ZX.v_mul, ZX.v_K, ZX.v_add, ZX.v_mul, ZX.v_mul, ZX.v_K, h1]
  have := hV t
  rw [h2] at this
  show m * V t a.l = V t q * V t c.l + 1 * 0
  omega
 ·have hgp := gcdL_Cn_pos hcp hz
  refine ⟨m, g * (gcdL (pscale r g) : Int), ⟨q, c1⟩, hm, Int.mul_ne_zero hg (by omega), ZX.ext fun t => ?_⟩
  have h1 := prim_map hcp hz
  have h2 : V t (pscale r g) = V t R.l * (gcdL (pscale r g) : Int) := by
   rw [hl, ← V_mapmul, h1]
  rw [V_pscale] at h2
  rw [ZX.v_mul, ZX.v_K, ZX.v_add, ZX.v_mul, ZX.v_mul, ZX.v_K]
  have := hV t
  show m * V t a.l = V t q * V t c.l + g * (gcdL (pscale r g) : Int) * V t R.l
  rw [← this]
  have h3 : V t r = g * (V t r * g) := by
   have : g * (V t r * g) = V t r * (g * g) := by grind
   rw [this, hsg]; omega
  rw [h3, h2]; grind
theorem rs_N {a c : ZX} (hc : c ≠ 0) : ZX.N (rs a c) < ZX.N c := rst_len (ZX.ne_zero.1 hc)
theorem prim_bd2 {s n : Nat} {x : List Int} (hx : Bd 2 s n x) : Bd 2 s n (prim x) := Bd.cut ⟨by simpa using hx.len, fun c hc => by
 simp only [List.mem_map] at hc
 obtain ⟨v, hv, rfl⟩ := hc
 refine Nat.le_trans (sz_mono (by decide) ?_) (hx.sz v hv)
 unfold exq
 split
 ·exact Int.natAbs_ediv_le_natAbs _ _
 ·simp⟩
theorem rs_bd {s s' n : Nat} {a c : ZX} (ha : BZ s n a) (hb : BZ s' n c) (hc : c ≠ 0) : BZ (s + (ZX.N a + 1 - ZX.N c) * (s' + n + 1)) n (rs a c) := by
 have h0 := ZX.ne_zero.1 hc
 have hl := rs_N (a := a) hc
 have hk : psk a.l c.l ≤ n := by
  have h1 := ha.N
  have h2 : psk a.l c.l = ZX.N a + 1 - ZX.N c := rfl
  omega
 obtain ⟨_, h2⟩ := ps_bd (B := 2) (by decide) hb (psk a.l c.l) s [] a.l hk ⟨by simp, fun c hc => by cases hc⟩ (ha.mono (Nat.le_refl _) (by omega))
 have h3 : Bd 2 (s + psk a.l c.l * (s' + n + 1)) (n + n) (rst a.l c.l) := by
  unfold rst
  split
  ·exact prim_bd2 (Bd.pneg h2)
  ·exact prim_bd2 h2
 have h4 := hb.N
 have h5 : ZX.N (rs a c) = (rst a.l c.l).length := rfl
 exact ⟨by show (rst a.l c.l).length ≤ n; omega, fun d hd => h3.sz d hd⟩
theorem four_pow {d : Nat} (h : 1 ≤ d) : d + 2 ≤ 4 ^ d := by
 obtain ⟨k, rfl⟩ : ∃ k, d = k + 1 := ⟨d - 1, by omega⟩
 clear h
 induction k with
 | zero => decide
 | succ k ih => rw [Nat.pow_succ]; omega
def Pot (C n s : Nat) (a c : ZX) : Prop := if ZX.N c < ZX.N a then (s + n + 1) * 4 ^ ZX.N a ≤ C else (s + n + 1) * 2 * 4 ^ ZX.N c ≤ C
theorem Pot.le {C n s : Nat} {a c : ZX} (h : Pot C n s a c) : s + n + 1 ≤ C := by
 unfold Pot at h
 split at h
 ·exact Nat.le_trans (Nat.le_mul_of_pos_right _ (Nat.pow_pos (by decide))) h
 ·refine Nat.le_trans ?_ h
  rw [Nat.mul_assoc]
  exact Nat.le_mul_of_pos_right _ (Nat.mul_pos (by decide) (Nat.pow_pos (by decide)))
theorem Pot.step {C n s : Nat} {a c r : ZX} (h : Pot C n s a c) (hr : ZX.N r < ZX.N c) : Pot C n (s + (ZX.N a + 1 - ZX.N c) * (s + n + 1)) c r := by
 unfold Pot at h ⊢
 rw [if_pos hr]
 generalize hT : s + n + 1 = T at *
 have e : s + (ZX.N a + 1 - ZX.N c) * T + n + 1 = (ZX.N a + 1 - ZX.N c + 1) * T := by
  rw [Nat.add_mul, Nat.one_mul]; omega
 rw [e]
 split at h
 ·rename_i h1
  obtain ⟨d, hd⟩ : ∃ d, ZX.N a = ZX.N c + d := ⟨ZX.N a - ZX.N c, by omega⟩
  have h2 := four_pow (d := d) (by omega)
  rw [hd, Nat.pow_add] at h
  have h3 : (ZX.N a + 1 - ZX.N c + 1) * T ≤ 4 ^ d * T := Nat.mul_le_mul_right _ (by omega)
  refine Nat.le_trans (Nat.mul_le_mul_right _ h3) ?_
  have : 4 ^ d * T * 4 ^ ZX.N c = T * (4 ^ ZX.N c * 4 ^ d) := by grind
  omega
 ·rename_i h1
  refine Nat.le_trans (Nat.mul_le_mul_right _ (Nat.mul_le_mul_right T (show ZX.N a + 1 - ZX.N c + 1 ≤ 2 by omega))) ?_
  rw [Nat.mul_comm 2 T]; exact h
theorem two_retB {s n C : Nat} {a c : ZX} (b : BZ s n a) (b' : BZ s n c) (hP : Pot C n s (nf a) (nf c)) (hB : (n + 1) * C ≤ 99000000000) : Ret env.P 185 [Po a.l, Po c.l] (Po (gz a c).l) := by
 have hC : C ≤ 99000000000 := Nat.le_trans (Nat.le_mul_of_pos_left C (by omega)) hB
 rw [Nat.succ_mul] at hB
 have hs := hP.le
 have p1 := prime_ret b (by omega) (by omega)
 have p2 := prime_ret b' (by omega) (by omega)
 have b1 := b.nf
 have b2 := b'.nf
 have hg : gz (nf a) (nf c) = gz a c := by rw [gz_nf, gz_nf']
 rw [← hg]
 generalize hx0 : nf a = x0 at *
 generalize hy0 : nf c = y0 at *
 generalize hG : gz x0 y0 = G at *
 refine ret_of_Wf (E := env) (fun _ => 0) [(0, Po a.l), (1, Po c.l)] Tryz.func185 rfl (by kernel_rfl) (by kernel_rfl) (show 2 ≤ 24 by decide) (by simp) ?_
 generalize a.l = al at *
 generalize c.l = cl at *
 refine W.sreg (fun K hK => ?_); simp (disch := omega) [gA, wA]; refine W.lv [0, 1] hK fun J j => ?_; clear hK K; simp; refine j _ ?_; clear j J
 refine W.sreg (fun K hK => ?_)
 simp (disch := omega) [gA, wA]
 refine callR p1 ?_
 simp (disch := omega) [gA, wA]
 refine callR p2 ?_
 simp (disch := omega) [gA, wA]
 refine W.lv [0, 1] hK fun J j => ?_; clear hK K; simp; refine j _ ?_; clear j J
 refine W.seq ?_
 refine W.block ?_
 refine W.loopG (fun k σ => ∃ (x y : ZX) (s : Nat) (rows : Pm.Rows) (clk : Nat), σ = ⟨fa [(0, Po x.l), (1, Po y.l)], rows, clk⟩ ∧ BZ s n x ∧ BZ s n y ∧ Pot C n s x y ∧ gz x y = G ∧ k = ZX.N y) (ZX.N y0) ?_ ?_
 ·exact ⟨_, .refl, x0, y0, s, _, _, rfl, b1, b2, hP, hG, rfl⟩
 rintro k _ ⟨x, y, s, rows, clk, rfl, bx, by_, hp, hgz, rfl⟩
 have hs := hp.le
 have hlx := bx.len
 have hly := by_.len
 refine W.seq ?_
 refine W.sreg (fun K hK => ?_); simp (disch := omega) [gA, wA]; refine W.lv [0, 1, 13] hK fun J j => ?_; clear hK K; simp; refine j _ ?_; clear j J
 refine W.cond ⟨_, rfl, fun h => ?_, fun h => ?_⟩
 ·have hy : y ≠ 0 := ZX.ne_zero.2 (by show 0 < y.l.length; simp at h; omega)
  obtain ⟨m, k, q, hm, hk, e⟩ := rs_spec (a := x) hy
  have hR := Rest_ret (x.l.map rw') (y.l.map rw') (bx.pok (by omega) (by omega)) (by_.pok (by omega) (by omega)) (s := s) (s' := s) (N := n) (by rw [map_gv_rw]; exact bdL bx) (by rw [map_gv_rw]; exact bdL by_) (by
   have : n * (s + n + 1) ≤ n * C := Nat.mul_le_mul_left n hs
   omega)
  rw [cfs_l, cfs_l, if_neg (ne_l hy), ← Po_eq, ← Po_eq, show rst x.l y.l = (rs x y).l from rfl] at hR
  have br := rs_bd bx by_ hy
  have hN := rs_N (a := x) hy
  have hp2 := hp.step hN
  have hg2 := gz_step hm hk e
  refine W.skip ?_
  refine W.block ?_
  refine W.sreg (fun K hK => ?_)
  simp (disch := omega) [gA, wA]
  refine callR hR ?_
  simp (disch := omega) [gA, wA]
  refine W.lv [1, 5] hK fun J j => ?_; clear hK K; simp; refine j _ ?_; clear j J
  refine W.reg (fun K hK => ?_)
  simp (disch := omega) [gA, wA]
  refine hK _ ⟨ZX.N (rs x y), _, Gh_fa _ [0, 1], hN, y, rs x y, _, _, _, rfl, by_.mono (by omega) (Nat.le_refl _), br, hp2, by rw [← hg2, hgz], rfl⟩
 ·have hy : y = 0 := by
   refine Classical.byContradiction fun h0 => ?_
   have h1 := ZX.ne_zero.1 h0
   have h2 : ZX.N y = y.l.length := rfl
   simp at h; rw [h2, h] at h1; simp at h1
  subst hy
  rw [gz_zero] at hgz
  have p3 := prime_ret bx (by omega) (by omega)
  rw [hgz] at p3
  refine W.exit ?_; simp only [pX, if_true, if_false, reduceIte, Nat.reduceEqDiff]
  refine W.sreg (fun K hK => ?_)
  simp (disch := omega) [gA, wA]
  refine callR p3 ?_
  simp (disch := omega) [gA, wA]
  refine W.lv [4] hK fun J j => ?_; clear hK K; simp; refine j _ ?_; clear j J
  refine W.ret ?_
  simp [go]
theorem two_ret {s n C : Nat} {a c : ZX} (b : BZ s n a) (b' : BZ s n c) (hP : Pot C n s (nf a) (nf c)) (hn : n ≤ 20) (hC : C ≤ 4500000000) : Ret env.P 185 [Po a.l, Po c.l] (Po (gz a c).l) :=
 two_retB b b' hP (Nat.le_trans (Nat.mul_le_mul (show n + 1 ≤ 21 by omega) hC) (by decide))
end Go.Proofs.YtdiladmkbpnhoaaGreat
namespace Go.Proofs.YtdiladmkbpnhoaaGreat
open Go Pm
def zp (a : ZX) : List PV := [Po a.l]
@[simp] theorem zp_def {a : ZX} : zp a = [Po a.l] := rfl
@[simp] theorem lenAll_zp {l : List ZX} : lenAll 1 (emap zp l) = True := lenAll_emap fun _ => rfl
@[simp] theorem app_zp {l : List ZX} {a : ZX} : emap zp l ++ [[sls ie a.l]] = emap zp (l ++ [a]) := by simp [emap]
@[simp] theorem rowPers_zp {v e n : Nat} {l : List ZX} : rowPers (some ⟨v, e, n, emap zp l⟩) = True := rowPers_emap fun _ => rfl
theorem BZ.der {h n : Nat} {a : ZX} (b : BZ h n a) (hn : n ≤ 31) : BZ (h + 5) n (ZX.der a) := Bd.cut ⟨by have := b.len; simp [ZX.derL]; omega, fun c hc => by
 simp only [ZX.derL, List.mem_map, List.mem_range] at hc
 obtain ⟨i, hi, rfl⟩ := hc
 have := b.len
 exact sz_mul (by decide) (b.nth _) (sz_le (k := 5) (by decide) (by rw [Int.natAbs_natCast]; show i + 1 < 32; omega))⟩
theorem deg_ret {h n : Nat} {a : ZX} (b : BZ h n a) (hn : n < 1099511627776) : Ret env.P 140 [Po a.l] (.int .i64 ((ZX.N a : Int) - 1)) := DegI_ret a.l (by have := b.len; omega)
structure Lay (s n : Nat) (a : ZX) : Prop where
 bz : BZ s n a
 hn : n ≤ 20
 hs : n + 1 ≤ 2 ^ s
 hC : (qb s n + n + 6) * 4 ^ n ≤ 4500000000
theorem Lay.qb_le {s n : Nat} {a : ZX} (h : Lay s n a) : qb s n + n + 6 ≤ 4500000000 := Nat.le_trans (Nat.le_mul_of_pos_right _ (Nat.pow_pos (by decide))) h.hC
theorem Lay.dv {s n : Nat} {a c : ZX} (h : Lay s n a) (ha : Nf a) (hc : Nf c) (hd : ZX.dv c a) : BZ (qb s n) n c := dv_bd ha hc hd h.bz h.hs
theorem Lay.nfz {s n : Nat} {a : ZX} (h : Lay s n a) : Lay s n (nf a) := ⟨h.bz.nf, h.hn, h.hs, h.hC⟩
theorem Lay.gdz {s n : Nat} {a c : ZX} (h : Lay s n a) (ha : Nf a) (hc : Nf c) (hd : ZX.dv c a) : Ret env.P 185 [Po c.l, Po (ZX.der c).l] (Po (gd c).l) ∧ Ret env.P 115 [Po c.l] (Po (ZX.der c).l) ∧ Ret env.P 184 [Po c.l, Po (gd c).l] (Po (qz c (gd c)).l) := by
 have b := h.dv ha hc hd
 have b2 := b.der (by have := h.hn; omega)
 have hq := h.qb_le
 have hn := h.hn
 have bg := h.dv ha (gd_Nf hc.ne) ((gd_dv c).trans hd)
 refine ⟨two_ret (s := qb s n + 5) (b.mono (by omega) (Nat.le_refl _)) b2 ?_ h.hn (C := 4500000000) (Nat.le_refl _), Derive_ret b (by omega) (by omega), quo_ret b bg hc (gd_Nf hc.ne) (gd_dv c) (by
  have : n * (qb s n + n + 1) ≤ 20 * 4500000000 := Nat.mul_le_mul hn (by omega)
  omega)⟩
 have hN := ZX.N_der c
 have h1 : ZX.N c ≤ n := b.N
 have h2 := ZX.ne_zero.1 hc.ne
 unfold Pot
 rw [N_nf, N_nf, if_pos (by omega)]
 refine Nat.le_trans (Nat.mul_le_mul (show qb s n + 5 + n + 1 ≤ qb s n + n + 6 by omega) (Nat.pow_le_pow_right (by decide) h1)) h.hC
theorem wz_small {s n : Nat} {a : ZX} (hA : Lay s n a) (na : Nf a) (k : Nat) : BZ (qb s n) n (wz a k) := hA.dv na (wz_spec na k).1 (wz_dv_a na k)
theorem nth_map_range (f : Nat → ZX) {m i : Nat} (h : i < m) : nth ((List.range m).map f) i = f i := by
 rw [nth_eq (by simpa using h)]; simp
theorem nl_Nf {a : ZX} (h : 0 < nl (nf a)) : Nf (nf a) := by
 have h1 := (nl_spec (nf a)).2 0 h
 exact nf_Nf fun h0 => by
  rw [h0, nf_zero] at h1
  have h2 : ZX.N (gs 0 0) = 0 := by decide
  omega
end Go.Proofs.YtdiladmkbpnhoaaGreat
namespace Go.Proofs.YtdiladmkbpnhoaaGreat
open Go Pm
theorem Coprime_retB {s n C : Nat} {a c : ZX} (b : BZ s n a) (b' : BZ s n c) (hP : Pot C n s (nf a) (nf c)) (hn : n ≤ 20) (hB : (n + 1) * C ≤ 99000000000) : Ret env.P 141 [Po a.l, Po c.l] (.bool (decide (ZX.N (gz a c) = 1))) := by
 have h1 := two_retB b b' hP hB
 have hl : ZX.N (gz a c) ≤ 20 := by
  by_cases ha : a = 0
  ·subst ha
   rw [gz_zero', N_nf]
   exact Nat.le_trans b'.N hn
  ·exact Nat.le_trans ((gz_isG a c).l.N_le ha) (Nat.le_trans b.N hn)
 have h2 := DegI_ret (gz a c).l (by show ZX.N (gz a c) < _; omega)
 have e : (((gz a c).l.length : Int) - 1 == 0) = decide (ZX.N (gz a c) = 1) := by
  rw [Bool.eq_iff_iff, beq_iff_eq, decide_eq_true_iff]
  have : ZX.N (gz a c) = (gz a c).l.length := rfl
  omega
 generalize gz a c = g at *
 refine ret_of_Wf (E := env) (fun _ => 0) [(0, Po a.l), (1, Po c.l)] Tryz.func141 rfl (by kernel_rfl) (by kernel_rfl) (show 2 ≤ 10 by decide) (by simp) ?_
 generalize a.l = x at *
 generalize c.l = y at *
 refine W.sreg (fun K hK => ?_); simp (disch := omega) [gA, wA]; refine W.lv [0, 1] hK fun J j => ?_; clear hK K; simp; refine j _ ?_; clear j J
 refine W.sreg (fun K hK => ?_)
 simp (disch := omega) [gA, wA]
 refine callR h1 ?_
 simp (disch := omega) [gA, wA]
 refine callR h2 ?_
 simp (disch := omega) [gA, wA, e]
 refine W.lv [4] hK fun J j => ?_; clear hK K; simp; refine j _ ?_; clear j J
 refine W.ret ?_
 simp [go]
theorem Coprime_ret {s n C : Nat} {a c : ZX} (b : BZ s n a) (b' : BZ s n c) (hP : Pot C n s (nf a) (nf c)) (hn : n ≤ 20) (hC : C ≤ 4500000000) : Ret env.P 141 [Po a.l, Po c.l] (.bool (decide (ZX.N (gz a c) = 1))) :=
 Coprime_retB b b' hP hn (Nat.le_trans (Nat.mul_le_mul (show n + 1 ≤ 21 by omega) hC) (by decide))
noncomputable def gcdl (L : List ZX) : ZX := L.foldl gz 0
theorem gcdl_succ {L : List ZX} {i : Nat} (h : i < L.length) : gcdl (L.take (i + 1)) = gz (gcdl (L.take i)) (nth L i) := by
 unfold gcdl; rw [take_succ_nth h, List.foldl_append]; rfl
def prodl (L : List ZX) : ZX := L.foldl (· * ·) 1
theorem prodl_succ {L : List ZX} {i : Nat} (h : i < L.length) : prodl (L.take (i + 1)) = prodl (L.take i) * nth L i := by
 unfold prodl; rw [take_succ_nth h, List.foldl_append]; rfl
theorem pOne_ret : Ret env.P 43 [.sl [[.int .i64 1]]] (Po (1 : ZX).l) := by
 have := pOf_ret [1] (by decide) (by decide)
 exact this
noncomputable def sq (a : ZX) : ZX := if ZX.N a ≤ 1 then nf a else sz' (nf a)
theorem Square_retG {α : Type} {g : α → List PV} {l : List α} {s n : Nat} {a : ZX} (h : Lay s n a) (p1 : Ret env.P 183 [sls g l] (Po (nf a).l)) : Ret env.P 113 [sls g l] (Po (sq a).l) := by
 have hqb := h.qb_le
 have hn := h.hn
 have hA := h.nfz
 have hdeg := deg_ret hA.bz (by omega)
 have hsq : sq a = if ZX.N (nf a) ≤ 1 then nf a else sz' (nf a) := by rw [N_nf]; rfl
 have nA : 2 ≤ ZX.N (nf a) → Nf (nf a) := fun h2 => nf_Nf fun h0 => by rw [h0, nf_zero] at h2; revert h2; decide
 rw [hsq]
 generalize nf a = A at *
 refine ret_of_Wf (E := env) (fun _ => 0) [(0, sls g l)] Tryz.func113 rfl (by kernel_rfl) (by kernel_rfl) (show 1 ≤ 15 by decide) (by simp) ?_
 refine W.sreg (fun K hK => ?_); simp (disch := omega) [gA, wA]; refine W.lv [0] hK fun J j => ?_; clear hK K; simp; refine j _ ?_; clear j J
 refine W.sreg (fun K hK => ?_)
 simp (disch := omega) [gA, wA]
 refine callR p1 ?_
 simp (disch := omega) [gA, wA]
 refine W.lv [0] hK fun J j => ?_; clear hK K; simp; refine j _ ?_; clear j J
 refine W.seq ?_
 refine W.sreg (fun K hK => ?_)
 simp (disch := omega) [gA, wA]
 refine callR hdeg ?_
 simp (disch := omega) [gA, wA]
 refine W.lv [0, 7] hK fun J j => ?_; clear hK K; simp; refine j _ ?_; clear j J
 refine W.cond ⟨_, rfl, fun h3 => ?_, fun h3 => ?_⟩
 ·have h2 : ZX.N A ≤ 1 := by simp at h3; omega
  rw [if_pos h2]
  refine W.sreg (fun K hK => ?_); simp (disch := omega) [gA, wA]; refine W.lv [2] hK fun J j => ?_; clear hK K; simp; refine j _ ?_; clear j J
  refine W.ret ?_
  simp [go]
 ·have h2 : 2 ≤ ZX.N A := by simp at h3; omega
  obtain ⟨t1, t2, t3⟩ := hA.gdz (nA h2) (nA h2) (ZX.dv.refl A)
  rw [if_neg (by omega), show sz' A = qz A (gd A) from rfl]
  generalize (gd A).l = g1 at *
  refine W.skip ?_
  refine W.sreg (fun K hK => ?_)
  simp (disch := omega) [gA, wA]
  refine callR t2 ?_
  simp (disch := omega) [gA, wA]
  refine callR t1 ?_
  simp (disch := omega) [gA, wA]
  refine callR t3 ?_
  simp (disch := omega) [gA, wA]
  refine W.lv [2] hK fun J j => ?_; clear hK K; simp; refine j _ ?_; clear j J
  refine W.ret ?_
  simp [go]
theorem Square_ret {s n : Nat} {a : ZX} (h : Lay s n a) : Ret env.P 113 [Po a.l] (Po (sq a).l) := by
 have hqb := h.qb_le
 have hn := h.hn
 exact Square_retG h (prime_ret h.bz (by unfold qb at hqb; omega) (by omega))
end Go.Proofs.YtdiladmkbpnhoaaGreat
