import Derived.Test.YtdiladmkbpnhoaaGreatMt
import Derived.Test.YtdiladmkbpnhoaaGreatLha
import Derived.Test.YtdiladmkbpnhoaaGreatLff
import Derived.Test.YtdiladmkbpnhoaaGreatLgc
set_option linter.unusedSimpArgs false
set_option linter.unusedVariables false
namespace Go.Proofs.YtdiladmkbpnhoaaGreat
open Go Pm
open ZX hiding N W
theorem aft_const (c : Int) : aft 0 1 (of [c]) = c.sign := by
 by_cases h : c = 0
 ·subst h
  show aftF 0 1 (ZX.N (of [0])) (of [0]) = _
  rw [show (of [0] : ZX) = 0 from ZX.ext fun t => rfl, aftF_zero]; rfl
 ·have hl : (of [c] : ZX).l = [c] := cutR_ne h []
  have hN : ZX.N (of [c]) = 1 := by show (of [c]).l.length = 1; rw [hl]; rfl
  have hs : sgA (of [c]).l 0 1 = c.sign := by
   rw [hl]
   show (0 * 0 + c * 1 : Int).sign = _
   rw [Int.mul_one, Int.zero_mul, Int.zero_add]
  unfold aft
  rw [hN, aftF, hs, if_neg (fun h0 => h (Int.sign_eq_zero_iff_zero.1 h0))]
theorem bz_const {c : Int} (h : c.natAbs < 2 ^ 60) : BZ 60 1 (of [c]) := Bd.cut ⟨by simp, fun x hx => by
 simp only [List.mem_cons, List.not_mem_nil, or_false] at hx
 subst hx; exact sz_le (by decide) h⟩
theorem After_const {c : Int} (h : c.natAbs < 2 ^ 60) (x : List Int) (C : List ZX) : Ret env.P 24 [PI (cutR [c]), AP x C 0 1] (.int .i64 c.sign) := by
 have := After_pt (x := x) (C := C) (n := 0) (d := 1) (bz_const h) (by decide) (by decide) (by decide) (by decide)
 rwa [aft_const] at this
theorem From_const {c : Int} (h : c.natAbs < 2 ^ 60) : Ret env.P 25 [Po (cutR [c])] (PI (cutR [c])) :=
 qFromI_ret (s := 60) (n := 1) (Cn.cut _) (Bd.cut ⟨by simp, fun x hx => by
  simp only [List.mem_cons, List.not_mem_nil, or_false] at hx
  subst hx
  exact Nat.le_trans (sz_le (k := 60) hLL (Nat.lt_of_lt_of_le h (Nat.pow_le_pow_left (by decide) _))) (Nat.le_refl _)⟩) (by decide) (by decide)
def rge (p : Int × Int) : List PV := [.int .i64 p.1, .int .i64 p.2]
theorem rge_def (p : Int × Int) : rge p = [.int .i64 p.1, .int .i64 p.2] := rfl
def ring : List (Int × Int) := [(5, 0), (4, 3), (3, 4), (0, 5), (-3, 4), (-4, 3), (-5, 0), (-4, -3), (-3, -4), (0, -5), (3, -4), (4, -3)]
theorem cAt_ret {x y u v : Int} (hx : -20 ≤ x ∧ x ≤ 20) (hy : -20 ≤ y ∧ y ≤ 20) (hu : -10 ≤ u ∧ u ≤ 10) (hv : -10 ≤ v ∧ v ≤ 10) : Ret env.P 17 [.int .i64 u, .int .i64 v, .rd [.int .i64 x], .rd [.int .i64 y]] (.ag (sv (x + u) (y + v)).cells) := by
 have s1 := sStill (x := x + u) (y := y + v) (by omega) (by omega)
 generalize sv (x + u) (y + v) = w at *
 simp only [CV.cells_def] at *
 refine ret_of_Wf (E := env) (fun _ => 0) [(0, .int .i64 u), (1, .int .i64 v), (2, .rd [.int .i64 x]), (3, .rd [.int .i64 y])] Tryz.func17 rfl (by kernel_rfl) (by kernel_rfl) (show 4 ≤ 14 by decide) (by simp) ?_
 refine W.sreg (fun K hK => ?_); simp (disch := omega) [gA, wA]; refine W.lv [0, 1, 2, 3, 6] hK fun J j => ?_; clear hK K; simp; refine j _ ?_; clear j J
 refine W.sreg (fun K hK => ?_)
 simp (disch := omega) [gA, wA]
 refine callR s1 ?_
 simp (disch := omega) [gA, wA]
 refine W.lv [6] hK fun J j => ?_; clear hK K; simp; refine j _ ?_; clear j J
 refine W.ret ?_
 simp [go]
theorem ring_bd : ∀ i, i < 12 → (-10 ≤ (nth ring i).1 ∧ (nth ring i).1 ≤ 10) ∧ (-10 ≤ (nth ring i).2 ∧ (nth ring i).2 ≤ 10) := by decide
theorem cP_ret {x y n i : Int} (hx : -20 ≤ x ∧ x ≤ 20) (hy : -20 ≤ y ∧ y ≤ 20) (hn : 0 ≤ n ∧ n < 12) (hi : 0 ≤ i ∧ i ≤ 10) :
  Ret env.P 19 [.int .i64 i, .rd [.fn 17 [.rd [.int .i64 x], .rd [.int .i64 y]]], .rd [.slx (emap rge ring)], .rd [.int .i64 n]] (.ag (sv (x + (nth ring ((n + i) % 12).toNat).1) (y + (nth ring ((n + i) % 12).toNat).2)).cells) := by
 have h1 := Int.emod_nonneg (n + i) (show (12 : Int) ≠ 0 by decide)
 have h2 := Int.emod_lt_of_pos (n + i) (show (0 : Int) < 12 by decide)
 have hk : ((n + i) % 12).toNat < 12 := by omega
 obtain ⟨b1, b2⟩ := ring_bd _ hk
 have hl : ring.length = 12 := rfl
 have s1 := cAt_ret hx hy b1 b2
 have hk2 : ((n + i) % 12).toNat < ring.length := by omega
 have hla : lenAll 2 (emap rge ring) = True := by
  simp only [lenAll, eq_iff_iff, iff_true]
  intro e he
  simp only [emap, List.mem_map] at he
  obtain ⟨p, _, rfl⟩ := he
  rfl
 generalize hs : sv (x + (nth ring ((n + i) % 12).toNat).1) (y + (nth ring ((n + i) % 12).toNat).2) = w at *
 generalize ring = rg at *
 simp only [CV.cells_def] at *
 refine ret_of_Wf (E := env) (fun _ => 0) [(0, .int .i64 i), (1, .rd [.fn 17 [.rd [.int .i64 x], .rd [.int .i64 y]]]), (2, .rd [.slx (emap rge rg)]), (3, .rd [.int .i64 n])] Tryz.func19 rfl (by kernel_rfl) (by kernel_rfl) (show 4 ≤ 24 by decide) (by simp) ?_
 refine W.sreg (fun K hK => ?_); simp (disch := omega) [gA, wA]; refine W.lv [0, 1, 2, 3, 5] hK fun J j => ?_; clear hK K; simp; refine j _ ?_; clear j J
 refine W.sdrw (fun K hK => ?_)
 simp (disch := omega) [gA, wA, hk2, hla, rge_def]
 refine callR s1 ?_
 simp (disch := omega) [gA, wA]
 (try (refine stepTxt (of_decide_eq_true (by kernel_rfl)) ?_)); (try simp (maxSteps := 4000000) (disch := omega) [gA, wA]); (repeat rw [if_pos (by kernel_rfl)]); (try simp (maxSteps := 4000000) (disch := omega) [gA, wA])
 refine W.lv [5] hK fun J j => ?_; clear hK K; simp; refine j _ ?_; clear j J
 refine W.ret ?_
 simp [go]
theorem cS_ret {c n d : Int} (h : c.natAbs < 2 ^ 60) (x : List Int) (C : List ZX) : Ret env.P 23 [Po (cutR [c]), .rd [PI x, sls zq C, sls i64e (dig DD (0 : Int).natAbs), .bool (decide ((0 : Int) < 0)), sls i64e (dig DD (1 : Int).natAbs), .bool (decide ((1 : Int) < 0)), sls i64e (dig DD (0 : Int).natAbs), .bool (decide ((0 : Int) < 0)), sls i64e (dig DD (1 : Int).natAbs), .bool (decide ((1 : Int) < 0))]] (.int .i64 c.sign) := by
 have f1 := From_const h
 have a1 := After_const h x C
 unfold AP at a1
 generalize cutR [c] = px at *
 refine ret_of_Wf (E := env) (fun _ => 0) [(0, Po px), (1, .rd [PI x, sls zq C, sls i64e (dig DD (0 : Int).natAbs), .bool (decide ((0 : Int) < 0)), sls i64e (dig DD (1 : Int).natAbs), .bool (decide ((1 : Int) < 0)), sls i64e (dig DD (0 : Int).natAbs), .bool (decide ((0 : Int) < 0)), sls i64e (dig DD (1 : Int).natAbs), .bool (decide ((1 : Int) < 0))])] Tryz.func23 rfl (by kernel_rfl) (by kernel_rfl) (show 2 ≤ 8 by decide) (by simp) ?_
 refine W.sreg (fun K hK => ?_); simp (disch := omega) [gA, wA]; refine W.lv [0, 1] hK fun J j => ?_; clear hK K; simp; refine j _ ?_; clear j J
 refine W.sdrw (fun K hK => ?_)
 simp (disch := omega) [gA, wA]
 refine callR f1 ?_
 simp (disch := omega) [gA, wA]
 refine callR a1 ?_
 simp (disch := omega) [gA, wA]
 refine W.lv [3] hK fun J j => ?_; clear hK K; simp; refine j _ ?_; clear j J
 refine W.ret ?_
 simp [go]
end Go.Proofs.YtdiladmkbpnhoaaGreat
namespace Go.Proofs.YtdiladmkbpnhoaaGreat
open Go Pm
open ZX hiding N W
def rq1' (n i : Int) : Int := (nth ring ((n + i) % 12).toNat).1
def rq2' (n i : Int) : Int := (nth ring ((n + i) % 12).toNat).2
def cD (n : Int) (i j k : Int) (u v : Int) : Int := cI (rq1' n i - u) (rq2' n i - v) (rq1' n j - u) (rq2' n j - v) (rq1' n k - u) (rq2' n k - v)
theorem ring_facts : ∀ m : Nat, m < 12 → cD m 0 4 8 (rq1' m 2) (rq2' m 2) = 0 ∧ cD m 0 4 8 (rq1' m 7) (rq2' m 7) = 0 ∧ (oI (rq1' m 0) (rq2' m 0) (rq1' m 4) (rq2' m 4) (rq1' m 8) (rq2' m 8)).sign = 1 ∧
  (cD m 0 4 8 0 0).sign = 1 ∧ (cD m 0 4 8 1 (-2)).sign = 1 ∧ (cD m 0 4 8 6 0).sign = -1 ∧ (cD m 0 8 4 0 0).sign = -1 ∧ (oI (rq1' m 0) (rq2' m 0) (rq1' m 4) (rq2' m 4) (rq1' m 8) (rq2' m 8)).natAbs < 1000 ∧
  (cD m 0 4 8 0 0).natAbs < 1000000 ∧ (cD m 0 4 8 1 (-2)).natAbs < 1000000 ∧ (cD m 0 4 8 6 0).natAbs < 1000000 ∧ (cD m 0 8 4 0 0).natAbs < 1000000 := by decide +kernel
theorem oI_shift (x y a b c d e f : Int) : oI (x + a) (y + b) (x + c) (y + d) (x + e) (y + f) = oI a b c d e f := by unfold oI; grind
theorem pt_bd {x y u v : Int} (hx : -20 ≤ x ∧ x ≤ 20) (hu : -10 ≤ u ∧ u ≤ 10) : -1000 ≤ x + u ∧ x + u ≤ 1000 := by omega
theorem rq_bd' {n i : Int} (hn : 0 ≤ n ∧ n < 12) (hi : 0 ≤ i ∧ i ≤ 10) : (-10 ≤ rq1' n i ∧ rq1' n i ≤ 10) ∧ (-10 ≤ rq2' n i ∧ rq2' n i ≤ 10) := by
 have h1 := Int.emod_nonneg (n + i) (show (12 : Int) ≠ 0 by decide)
 have h2 := Int.emod_lt_of_pos (n + i) (show (0 : Int) < 12 by decide)
 exact ring_bd _ (by omega)
@[simp] theorem pz_rd {rows : Pm.Rows} {l : List PV} : pz rows (.rd l) = .rd l := rfl
@[simp] theorem idsV_rd {l : List PV} : idsV (.rd l) = [] := rfl
theorem W_rows {E : Env} {n : Nat} {tl : Nat → Nat} {c : Code} {Q : PX → PS → Prop} {f : Nat → PV} {rows : Pm.Rows} {clk : Nat} (l : List Nat) (h : ∀ R : Pm.Rows, (∀ i ∈ l, R i = rows i) → W E n tl c Q ⟨f, R, clk⟩) : W E n tl c Q ⟨f, rows, clk⟩ := h rows fun _ _ => rfl
theorem kCircle {x y a b c d e f g h : Int} (hx : -20 ≤ x ∧ x ≤ 20) (hy : -20 ≤ y ∧ y ≤ 20) (h1 : -10 ≤ a ∧ a ≤ 10) (h2 : -10 ≤ b ∧ b ≤ 10) (h3 : -10 ≤ c ∧ c ≤ 10) (h4 : -10 ≤ d ∧ d ≤ 10) (h5 : -10 ≤ e ∧ e ≤ 10) (h6 : -10 ≤ f ∧ f ≤ 10) (h7 : -10 ≤ g ∧ g ≤ 10) (h8 : -10 ≤ h ∧ h ≤ 10) :
  Ret env.P 20 [.ag (sv (x + a) (y + b)).cells, .ag (sv (x + c) (y + d)).cells, .ag (sv (x + e) (y + f)).cells, .ag (sv (x + g) (y + h)).cells] (Po (cutR [cI (a - g) (b - h) (c - g) (d - h) (e - g) (f - h)])) := by
 have := sCircle (x0 := x + a) (y0 := y + b) (x1 := x + c) (y1 := y + d) (x2 := x + e) (y2 := y + f) (x3 := x + g) (y3 := y + h) (by omega) (by omega) (by omega) (by omega) (by omega) (by omega) (by omega) (by omega)
 simp only [Int.add_sub_add_left] at this
 exact this
set_option maxHeartbeats 4000000 in
theorem PredCircles_ret (x0 y0 k0 : Int) (hx : -9223372036854775808 ≤ x0 ∧ x0 < 9223372036854775808) (hy : -9223372036854775808 ≤ y0 ∧ y0 < 9223372036854775808) (hk : -9223372036854775808 ≤ k0 ∧ k0 < 9223372036854775808) :
  Ret env.P 3 [.int .i64 x0, .int .i64 y0, .int .i64 k0] (.bool true) := by
 have w1 := Within_ret x0 41 hx (by decide) (by decide)
 have w2 := Within_ret y0 41 hy (by decide) (by decide)
 have w3 := Within_ret k0 12 hk (by decide) (by decide)
 have q1 := Int.emod_nonneg x0 (show (41 : Int) ≠ 0 by decide)
 have q2 := Int.emod_lt_of_pos x0 (show (0 : Int) < 41 by decide)
 have q3 := Int.emod_nonneg y0 (show (41 : Int) ≠ 0 by decide)
 have q4 := Int.emod_lt_of_pos y0 (show (0 : Int) < 41 by decide)
 have q5 := Int.emod_nonneg k0 (show (12 : Int) ≠ 0 by decide)
 have q6 := Int.emod_lt_of_pos k0 (show (0 : Int) < 12 by decide)
 generalize hX : x0 % 41 = X at *
 generalize hYY : y0 % 41 = Y at *
 generalize hNN : k0 % 12 = n at *
 have hx2 : -20 ≤ X - 20 ∧ X - 20 ≤ 20 := by omega
 have hy2 : -20 ≤ Y - 20 ∧ Y - 20 ≤ 20 := by omega
 have hn2 : 0 ≤ n ∧ n < 12 := ⟨q5, q6⟩
 obtain ⟨m, rfl⟩ : ∃ m : Nat, n = m := ⟨n.toNat, by omega⟩
 obtain ⟨z1, z2, o1, o2, o3, o4, o5, s1, s2, s3, s4, s5⟩ := ring_facts m (by omega)
 have bb := fun i hi => rq_bd' (n := (m : Int)) (i := i) hn2 hi
 have P := fun i hi => cP_ret (i := i) hx2 hy2 hn2 hi
 have p0 := P 0 (by decide)
 have p4 := P 4 (by decide)
 have p8 := P 8 (by decide)
 have p2 := P 2 (by decide)
 have p7 := P 7 (by decide)
 have A := fun u v hu hv => cAt_ret (u := u) (v := v) hx2 hy2 hu hv
 have a0 := A 0 0 (by decide) (by decide)
 have a1 := A 1 (-2) (by decide) (by decide)
 have a6 := A 6 0 (by decide) (by decide)
 have b0 := bb 0 (by decide)
 have b4 := bb 4 (by decide)
 have b8 := bb 8 (by decide)
 have b2 := bb 2 (by decide)
 have b7 := bb 7 (by decide)
 have c2 := kCircle hx2 hy2 b0.1 b0.2 b4.1 b4.2 b8.1 b8.2 b2.1 b2.2
 have c7 := kCircle hx2 hy2 b0.1 b0.2 b4.1 b4.2 b8.1 b8.2 b7.1 b7.2
 have d0 := kCircle hx2 hy2 b0.1 b0.2 b4.1 b4.2 b8.1 b8.2 (g := 0) (h := 0) (by decide) (by decide)
 have d1 := kCircle hx2 hy2 b0.1 b0.2 b4.1 b4.2 b8.1 b8.2 (g := 1) (h := -2) (by decide) (by decide)
 have d6 := kCircle hx2 hy2 b0.1 b0.2 b4.1 b4.2 b8.1 b8.2 (g := 6) (h := 0) (by decide) (by decide)
 have dx := kCircle hx2 hy2 b0.1 b0.2 b8.1 b8.2 b4.1 b4.2 (g := 0) (h := 0) (by decide) (by decide)
 have oo := sOrient (x0 := X - 20 + rq1' m 0) (y0 := Y - 20 + rq2' m 0) (x1 := X - 20 + rq1' m 4) (y1 := Y - 20 + rq2' m 4) (x2 := X - 20 + rq1' m 8) (y2 := Y - 20 + rq2' m 8) (by omega) (by omega) (by omega) (by omega) (by omega) (by omega)
 rw [oI_shift] at oo
 replace c2 : Ret env.P 20 _ (Po (cutR [cD m 0 4 8 (rq1' m 2) (rq2' m 2)])) := c2
 replace c7 : Ret env.P 20 _ (Po (cutR [cD m 0 4 8 (rq1' m 7) (rq2' m 7)])) := c7
 replace d0 : Ret env.P 20 _ (Po (cutR [cD m 0 4 8 0 0])) := d0
 replace d1 : Ret env.P 20 _ (Po (cutR [cD m 0 4 8 1 (-2)])) := d1
 replace d6 : Ret env.P 20 _ (Po (cutR [cD m 0 4 8 6 0])) := d6
 replace dx : Ret env.P 20 _ (Po (cutR [cD m 0 8 4 0 0])) := dx
 rw [z1, show cutR [(0 : Int)] = [] from rfl] at c2
 rw [z2, show cutR [(0 : Int)] = [] from rfl] at c7
 obtain ⟨CC, rt⟩ := Rational_ret (n := 0) (d := 1) (by decide) (by decide) (by decide)
 have sm := Small_ret 30 0 (by decide) (by decide)
 rw [show sml 30 0 = 0 from by decide, RR_R2, show (0 : Rat).num = 0 from rfl, show (((0 : Rat).den : Nat) : Int) = 1 from rfl] at sm
 have g0 := cS_ret (c := oI (rq1' m 0) (rq2' m 0) (rq1' m 4) (rq2' m 4) (rq1' m 8) (rq2' m 8)) (n := 0) (d := 0) (by omega) [-0, 1] CC
 have g1 := cS_ret (c := cD m 0 4 8 0 0) (n := 0) (d := 0) (by omega) [-0, 1] CC
 have g2 := cS_ret (c := cD m 0 4 8 1 (-2)) (n := 0) (d := 0) (by omega) [-0, 1] CC
 have g3 := cS_ret (c := cD m 0 4 8 6 0) (n := 0) (d := 0) (by omega) [-0, 1] CC
 have g4 := cS_ret (c := cD m 0 8 4 0 0) (n := 0) (d := 0) (by omega) [-0, 1] CC
 rw [o1] at g0
 rw [o2] at g1
 rw [o3] at g2
 rw [o4] at g3
 rw [o5] at g4
 unfold AP at rt
 have hw := wakes14_ret
 replace p0 : Ret env.P 19 _ (.ag (sv (X - 20 + rq1' m 0) (Y - 20 + rq2' m 0)).cells) := p0
 replace p4 : Ret env.P 19 _ (.ag (sv (X - 20 + rq1' m 4) (Y - 20 + rq2' m 4)).cells) := p4
 replace p8 : Ret env.P 19 _ (.ag (sv (X - 20 + rq1' m 8) (Y - 20 + rq2' m 8)).cells) := p8
 replace p2 : Ret env.P 19 _ (.ag (sv (X - 20 + rq1' m 2) (Y - 20 + rq2' m 2)).cells) := p2
 replace p7 : Ret env.P 19 _ (.ag (sv (X - 20 + rq1' m 7) (Y - 20 + rq2' m 7)).cells) := p7
 clear z1 z2 o1 o2 o3 o4 o5 s1 s2 s3 s4 s5 bb b0 b4 b8 b2 b7 P A
 generalize cutR [cD m 0 4 8 0 0] = K0 at *
 generalize cutR [cD m 0 4 8 1 (-2)] = K1 at *
 generalize cutR [cD m 0 4 8 6 0] = K6 at *
 generalize cutR [cD m 0 8 4 0 0] = KX at *
 generalize cutR [oI (rq1' m 0) (rq2' m 0) (rq1' m 4) (rq2' m 4) (rq1' m 8) (rq2' m 8)] = KO at *
 generalize sv (X - 20 + rq1' m 0) (Y - 20 + rq2' m 0) = v0 at *
 generalize sv (X - 20 + rq1' m 4) (Y - 20 + rq2' m 4) = v4 at *
 generalize sv (X - 20 + rq1' m 8) (Y - 20 + rq2' m 8) = v8 at *
 generalize sv (X - 20 + rq1' m 2) (Y - 20 + rq2' m 2) = v2 at *
 generalize sv (X - 20 + rq1' m 7) (Y - 20 + rq2' m 7) = v7 at *
 generalize sv (X - 20 + 0) (Y - 20 + 0) = va at *
 generalize sv (X - 20 + 1) (Y - 20 + -2) = vb at *
 generalize sv (X - 20 + 6) (Y - 20 + 0) = vc at *
 have hring : emap rge ring = [[.int .i64 5, .int .i64 0], [.int .i64 4, .int .i64 3], [.int .i64 3, .int .i64 4], [.int .i64 0, .int .i64 5], [.int .i64 (-3), .int .i64 4], [.int .i64 (-4), .int .i64 3], [.int .i64 (-5), .int .i64 0], [.int .i64 (-4), .int .i64 (-3)], [.int .i64 (-3), .int .i64 (-4)], [.int .i64 0, .int .i64 (-5)], [.int .i64 3, .int .i64 (-4)], [.int .i64 4, .int .i64 (-3)]] := rfl
 simp only [CV.cells_def] at *
 refine ret_of_Wg (E := env) (fun _ => 0) [(0, .int .i64 x0), (1, .int .i64 y0), (2, .int .i64 k0)] Tryz.func3 rfl (by kernel_rfl) (by kernel_rfl) (show 3 ≤ 120 by decide) (by simp) ?_
 refine W.sreg (fun K hK => ?_); simp (disch := omega) [gA, wA]; refine W.lv [2, 3, 4] hK fun J j => ?_; clear hK K; simp; refine j _ ?_; clear j J
 refine W.sdrw (fun K hK => ?_)
 simp (disch := omega) [gA, wA]
 refine callR w1 ?_
 simp (disch := omega) [gA, wA]
 refine callR w2 ?_
 simp (disch := omega) [gA, wA]
 (try (refine stepTxt (of_decide_eq_true (by kernel_rfl)) ?_)); (try simp (maxSteps := 4000000) (disch := omega) [gA, wA]); (repeat rw [if_pos (by kernel_rfl)]); (try simp (maxSteps := 4000000) (disch := omega) [gA, wA])
 (try (refine stepTxt (of_decide_eq_true (by kernel_rfl)) ?_)); (try simp (maxSteps := 4000000) (disch := omega) [gA, wA]); (repeat rw [if_pos (by kernel_rfl)]); (try simp (maxSteps := 4000000) (disch := omega) [gA, wA])
 refine W.lv [2, 3, 4] hK fun J j => ?_; clear hK K; simp; refine j _ ?_; clear j J
 refine W.sreg (fun K hK => ?_); simp (disch := omega) [gA, wA]; refine W.lv [2, 7] hK fun J j => ?_; clear hK K; simp; refine j _ ?_; clear j J
 refine W.sreg (fun K hK => ?_)
 simp (maxSteps := 4000000) (disch := omega) [gA, wA]
 refine W.lv [2, 7, 8] hK fun J j => ?_; clear hK K; simp; refine j _ ?_; clear j J
 rw [← hring]
 clear hring
 generalize emap rge ring = RG at *
 refine W_rows [7, 8] fun R hR => ?_
 have r7 := hR 7 (by simp)
 have r8 := hR 8 (by simp)
 simp at r7 r8
 clear hR
 refine W.sreg (fun K hK => ?_)
 simp (disch := omega) [gA, wA, r7, r8]
 refine callR w3 ?_
 simp (disch := omega) [gA, wA, r7, r8]
 refine W.lv [7, 8, 9] hK fun J j => ?_; clear hK K; simp; refine j _ ?_; clear j J
 refine W.freeze 7 (by simp [r7]) (fun K hK => ?_)
 simp [r7]
 refine hK _ ?_; clear hK K
 refine W.sreg (fun K hK => ?_)
 simp (disch := omega) [gA, wA, r7, r8]
 refine W.lv [7, 10] hK fun J j => ?_; clear hK K; simp; refine j _ ?_; clear j J
 refine W.sreg (fun K hK => ?_)
 simp (disch := omega) [gA, wA, r7, r8]
 refine callR p0 ?_
 simp (disch := omega) [gA, wA, r7, r8]
 refine callR p4 ?_
 simp (disch := omega) [gA, wA, r7, r8]
 refine callR p8 ?_
 simp (disch := omega) [gA, wA, r7, r8]
 (try (refine stepTxt (of_decide_eq_true (by kernel_rfl)) ?_)); (try simp (maxSteps := 4000000) (disch := omega) [gA, wA, r7, r8]); (repeat rw [if_pos (by kernel_rfl)]); (try simp (maxSteps := 4000000) (disch := omega) [gA, wA, r7, r8])
 refine W.lv [7, 10, 11, 12, 13] hK fun J j => ?_; clear hK K; simp; refine j _ ?_; clear j J
 refine W_rows [11, 12, 13] fun S hS => ?_
 have s11 := hS 11 (by simp)
 have s12 := hS 12 (by simp)
 have s13 := hS 13 (by simp)
 simp at s11 s12 s13
 clear hS
 refine W.seq ?_
 refine W.sdrw (fun K hK => ?_)
 simp (disch := omega) [gA, wA, s11, s12, s13]
 refine callR p2 ?_
 simp (disch := omega) [gA, wA, s11, s12, s13]
 refine callR c2 ?_
 simp (disch := omega) [gA, wA, s11, s12, s13]
 refine callR p7 ?_
 simp (disch := omega) [gA, wA, s11, s12, s13]
 refine callR c7 ?_
 simp (disch := omega) [gA, wA, s11, s12, s13]
 refine W.lv [7, 11, 12, 13, 62] hK fun J j => ?_; clear hK K; simp; refine j _ ?_; clear j J
 refine W.cond ⟨_, rfl, fun h => ?_, fun h => ?_⟩
 ·simp at h
 ·clear h
  refine W.skip ?_
  refine W.sreg (fun K hK => ?_)
  simp (disch := omega) [gA, wA, s11, s12, s13]
  refine callR sm ?_
  simp (disch := omega) [gA, wA, s11, s12, s13]
  refine callR rt ?_
  simp (disch := omega) [gA, wA, s11, s12, s13]
  refine W.lv [7, 11, 12, 13, 14] hK fun J j => ?_; clear hK K; simp; refine j _ ?_; clear j J
  refine W.sreg (fun K hK => ?_)
  simp (disch := omega) [gA, wA, s11, s12, s13]
  refine W.lv [7, 11, 12, 13, 15] hK fun J j => ?_; clear hK K; simp; refine j _ ?_; clear j J
  refine W.sdrw (fun K hK => ?_)
  simp (disch := omega) [gA, wA, s11, s12, s13]
  refine callR oo ?_
  simp (disch := omega) [gA, wA, s11, s12, s13]
  refine callR g0 ?_
  simp (disch := omega) [gA, wA, s11, s12, s13]
  refine callR a0 ?_
  simp (disch := omega) [gA, wA, s11, s12, s13]
  refine callR d0 ?_
  simp (disch := omega) [gA, wA, s11, s12, s13]
  refine callR g1 ?_
  simp (disch := omega) [gA, wA, s11, s12, s13]
  refine callR a1 ?_
  simp (disch := omega) [gA, wA, s11, s12, s13]
  refine callR d1 ?_
  simp (disch := omega) [gA, wA, s11, s12, s13]
  refine callR g2 ?_
  simp (disch := omega) [gA, wA, s11, s12, s13]
  refine callR a6 ?_
  simp (disch := omega) [gA, wA, s11, s12, s13]
  refine callR d6 ?_
  simp (disch := omega) [gA, wA, s11, s12, s13]
  refine callR g3 ?_
  simp (disch := omega) [gA, wA, s11, s12, s13]
  refine callR a0 ?_
  simp (disch := omega) [gA, wA, s11, s12, s13]
  refine callR dx ?_
  simp (disch := omega) [gA, wA, s11, s12, s13]
  refine callR g4 ?_
  simp (disch := omega) [gA, wA, s11, s12, s13]
  refine callR hw ?_
  simp (disch := omega) [gA, wA, s11, s12, s13]
  refine W.lv [6] hK fun J j => ?_; clear hK K; simp; refine j _ ?_; clear j J
  refine W.ret ?_
  simp [go]
end Go.Proofs.YtdiladmkbpnhoaaGreat
