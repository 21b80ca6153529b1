import Derived.Test.YtdiladmkbpnhoaaGreatLge
import Derived.Test.YtdiladmkbpnhoaaGreatLgc
import Derived.Test.YtdiladmkbpnhoaaGreatMr
import Derived.Test.YtdiladmkbpnhoaaGreatLej
set_option linter.unusedSimpArgs false
set_option linter.unusedVariables false
namespace Go.Proofs.YtdiladmkbpnhoaaGreat
open Go Pm
open ZX hiding N W
theorem nth_der {a : ZX} (h : 2 ≤ ZX.N a) : nth (der a).l (ZX.N a - 2) = lead a.l * ((ZX.N a - 1 : Nat) : Int) := by
 have h1 : a.l.length = ZX.N a := rfl
 have h2 : nth (der a).l (ZX.N a - 2) = nth a.l (ZX.N a - 1) * ((ZX.N a - 1 : Nat) : Int) := by
  show nth (cutR (derL a.l)) _ = _
  rw [nth_cutR, derL, nth_eq (by simp; omega)]
  simp only [List.getElem_map, List.getElem_range]
  rw [show ZX.N a - 2 + 1 = ZX.N a - 1 by omega]
 rw [h2, lead, h1]
theorem N_der_eq {a : ZX} (h : 2 ≤ ZX.N a) : ZX.N (der a) = ZX.N a - 1 := by
 have h1 := N_der a
 have h2 := nth_der h
 have hl := lead_ne a.c (show 0 < a.l.length from by have : a.l.length = ZX.N a := rfl; omega)
 have h3 : nth (der a).l (ZX.N a - 2) ≠ 0 := by rw [h2]; exact Int.mul_ne_zero hl (by omega)
 rcases Nat.lt_or_ge (ZX.N a - 2) (der a).l.length with h4 | h4
 ·have : ZX.N (der a) = (der a).l.length := rfl
  omega
 ·exact absurd (nth_ge h4) h3
theorem lead_der {a : ZX} (h : 2 ≤ ZX.N a) : lead (der a).l = lead a.l * ((ZX.N a - 1 : Nat) : Int) := by
 rw [← nth_der h, lead, show (der a).l.length = ZX.N (der a) from rfl, N_der_eq h, show ZX.N a - 1 - 1 = ZX.N a - 2 by omega]
theorem der_small {a : ZX} (h : ZX.N a ≤ 1) : der a = 0 := by
 refine Classical.byContradiction fun h0 => ?_
 have h1 := ZX.ne_zero.1 h0
 have := N_der a
 omega
theorem prv_der {f : ZX} (hf : Nf f) : prv (der f).l = (ps1 (der f)).l := by
 have h : ¬ lead (der f).l < 0 := by
  rcases Nat.lt_or_ge (ZX.N f) 2 with h2 | h2
  ·rw [der_small (by omega)]; decide
  ·rw [lead_der h2]
   have := Int.mul_nonneg (Int.le_of_lt hf.l) (show (0 : Int) ≤ ((ZX.N f - 1 : Nat) : Int) by omega)
   omega
 show _ = prim (der f).l
 rw [prim_prv, if_neg h]
theorem New_ret {α : Type} {g : α → List PV} {l : List α} {s n : Nat} {f : ZX} (hS : Ret env.P 113 [sls g l] (Po f.l)) (h : Ch s n f) (hf : Nf f) : Ret env.P 48 [sls g l] (.tup [CH (chn f), .int .i64 0]) := by
 have hn := h.hn
 have hp := h.pot
 have hs := hp.le
 have bd : BZ (s + 5) n (der f) := h.bz.der (by omega)
 have d1 := Derive_ret h.bz (by omega) (by omega)
 have d2 := Primitive_ret ((der f).l.map rw') (bd.pok (by omega) (by omega)) (s := s + 5) (n := n) (by rw [map_gv_rw]; exact bdL bd) (by omega) (by omega)
 rw [cfs_l, ← Po_eq, prv_der hf] at d2
 have b2 : BZ (s + 5) n (ps1 (der f)) := prim_bd2 bd
 have b1 : BZ (s + 5) n f := h.bz.mono (by omega) (Nat.le_refl _)
 have hN2 : ZX.N (ps1 (der f)) ≤ ZX.N f := Nat.le_trans (prim_len _) (Nat.le_trans (N_der f) (by omega))
 have hc : chn f = f :: chT (ZX.N f) f (ps1 (der f)) := rfl
 rw [chT_ge hN2 (Nat.le_refl _)] at hc
 have hf0 : f.l.length ≠ 0 := by have := ZX.ne_zero.1 hf.ne; exact Nat.pos_iff_ne_zero.1 this
 have hf1 : ¬ f.l = [] := fun h0 => hf0 (by rw [h0]; rfl)
 generalize hC : chn f = C at *
 generalize ps1 (der f) = g0 at *
 generalize pcn (der f).l = pc at *
 generalize (der f).l = dl at *
 refine ret_of_Wf (E := env) (fun _ => 0) [(0, sls g l)] Tryz.func48 rfl (by kernel_rfl) (by kernel_rfl) (show 1 ≤ 48 by decide) (by simp) ?_
 refine W.sreg (fun K hK => ?_); simp (disch := omega) [gA, wA]; refine W.lv [0] hK fun J j => ?_; clear hK K; simp; refine j _ ?_; clear j J
 refine W.sreg (fun K hK => ?_)
 simp (disch := omega) [gA, wA]
 refine callR hS ?_
 simp (disch := omega) [gA, wA]
 refine W.lv [4] hK fun J j => ?_; clear hK K; simp; refine j _ ?_; clear j J
 refine W.seq ?_
 refine W.sreg (fun K hK => ?_); simp (disch := omega) [gA, wA]; refine W.lv [4, 14] hK fun J j => ?_; clear hK K; simp; refine j _ ?_; clear j J
 refine W.cond ⟨_, rfl, fun h => ?_, fun h => ?_⟩
 ·simp at h; exact absurd h hf1
 refine W.skip ?_
 refine W.sregLB 1 rfl rfl rfl (fun K hK => ?_)
 simp (disch := omega) [gA, wA]
 refine W.lv [4, 5] hK fun J j => ?_; clear hK K; simp; refine j _ ?_; clear j J
 refine W.sreg (fun K hK => ?_)
 simp (disch := omega) [gA, wA]
 refine callR d1 ?_
 simp (disch := omega) [gA, wA]
 refine callR d2 ?_
 simp (disch := omega) [gA, wA]
 refine W.lv [4, 5, 7] hK fun J j => ?_; clear hK K; simp; refine j _ ?_; clear j J
 refine W.seq ?_
 refine W.block ?_
 refine W.loopG (fun k σ => ∃ (L : List ZX) (x y : ZX) (i ver v18 e18 s : Nat) (rows : Pm.Rows) (clk : Nat), σ = ⟨fa [(4, Po x.l), (5, .ptr 18 v18 0 0), (7, Po y.l)], rows, clk⟩ ∧ rows 16 = some ⟨ver, 24, 1, emap zp L⟩ ∧ rows 18 = some ⟨v18, e18, 1, [[.own 16 ver 0 (i + 1)]]⟩ ∧ L.length = i + 1 ∧
  L ++ chT k x y = C ∧ k = ZX.N y ∧ BZ s n x ∧ BZ s n y ∧ Pot 4500000000 n s x y ∧ i + ZX.N y ≤ 20) (ZX.N g0) ?_ ?_
 ·exact ⟨_, .refl, [f], f, g0, 0, _, _, _, s + 5, _, _, rfl, by simp [emap]; (first | exact rfl | exact ⟨rfl, rfl⟩), by simp; (first | exact rfl | exact ⟨rfl, rfl⟩ | exact ⟨rfl, rfl, rfl⟩), rfl, hc.symm, rfl, b1, b2, hp, by have := b2.N; omega⟩
 rintro k _ ⟨L, x, y, i, ver, v18, e18, s, rows, clk, rfl, hr16, hr18, hL, hcc, rfl, bx, by_, hp, hiN⟩
 have hs := hp.le
 have hlx := bx.len
 have hly := by_.len
 have hLl : (emap zp L).length = i + 1 := by simp [emap, hL]
 refine W.seq ?_
 refine W.sreg (fun K hK => ?_); simp (disch := omega) [gA, wA]; refine W.lv [4, 5, 7, 27] hK fun J j => ?_; clear hK K; simp; refine j _ ?_; clear j J
 refine W.cond ⟨_, rfl, fun h => ?_, fun h => ?_⟩
 ·have hy : y ≠ 0 := ZX.ne_zero.2 (by show 0 < y.l.length; simp at h; omega)
  have hR := Rest_ret (x.l.map rw') (y.l.map rw') (bx.pok (by omega) (by omega)) (by_.pok (by omega) (by omega)) (s := s) (s' := s) (N := n) (by rw [map_gv_rw]; exact bdL bx) (by rw [map_gv_rw]; exact bdL by_) (by
   have : n * (s + n + 1) ≤ 20 * 4500000000 := Nat.mul_le_mul hn hs
   omega)
  rw [cfs_l, cfs_l, if_neg (ne_l hy), ← Po_eq, ← Po_eq] at hR
  have br := rz_bd bx by_ hy
  have hmul2 : (ZX.N x + 1 - ZX.N y) * (s + n + 1) ≤ 22 * 4500000000 := Nat.mul_le_mul (by have : ZX.N x = x.l.length := rfl; omega) (by omega)
  have hrz : rst x.l y.l = (ps1 (rz x y)).l := by
   obtain ⟨hrl, hN, _⟩ := rz_spec (a := x) hy
   obtain ⟨m, q, hm, e⟩ := rq_pos y.c (ZX.ne_zero.1 hy) (x.l.length + 1) x.l x.c (by omega)
   rw [← hrl] at e
   exact rst_uniq x.c y.c (ZX.ne_zero.1 hy) (rz x y).c hN hm e
  rw [hrz] at hR
  have hNg := pNegI_ret (x := (ps1 (rz x y)).l) (PB.of (bdL (prim_bd2 br)) (by omega) (by omega))
  have e3 : pneg (ps1 (rz x y)).l = (nx x y).l := rfl
  rw [e3] at hNg
  have hN2 := nx_N (a := x) hy
  have hp2 := hp.step hN2
  have bn := nx_bd bx by_ hy
  have hch : L ++ [y] ++ chT (ZX.N (nx x y)) y (nx x y) = C := by
   rw [← hcc]
   obtain ⟨j, hj⟩ : ∃ j, ZX.N y = j + 1 := ⟨ZX.N y - 1, by have := ZX.ne_zero.1 hy; have : ZX.N y = y.l.length := rfl; omega⟩
   rw [hj, chT, if_neg (by omega), chT_ge (k := j) (j := ZX.N (nx x y)) (by omega) (Nat.le_refl _)]
   simp
  generalize (ps1 (rz x y)).l = pl at *
  generalize hnx : nx x y = nn at *
  refine W.skip ?_
  refine W.block ?_
  refine W.sreg (fun K hK => ?_)
  simp (disch := omega) [gA, wA, hr16, hr18, hLl]
  refine W.lv [4, 5, 7] hK fun J j => ?_; clear hK K; simp; refine j _ ?_; clear j J
  refine W.sreg (fun K hK => ?_)
  simp (disch := omega) [gA, wA]
  refine callR hR ?_
  simp (disch := omega) [gA, wA]
  refine W.lv [5, 7, 8] hK fun J j => ?_; clear hK K; simp; refine j _ ?_; clear j J
  refine W.reg (fun K hK => ?_)
  simp (disch := omega) [gA, wA]
  refine callR hNg ?_
  simp (disch := omega) [gA, wA]
  refine hK _ ⟨ZX.N nn, _, Gh_fa _ [4, 5, 7], hN2, L ++ [y], y, nn, i + 1, _, v18, e18, _, _, _, rfl, by simp; first | exact rfl | skip, by simp; first | exact rfl | skip, by simp [hL], hch, rfl, by_.mono (by omega) (Nat.le_refl _), bn, hp2, by omega⟩
 ·have hy : y = 0 := by
   refine Classical.byContradiction fun h0 => ?_
   have h1 := ZX.ne_zero.1 h0
   have h2 : ZX.N y = y.l.length := rfl
   simp at h; rw [h2, h] at h1; simp at h1
  subst hy
  rw [chT_zero, List.append_nil] at hcc
  subst hcc
  have htk : List.take (i + 1) L = L := List.take_of_length_le (by omega)
  refine W.exit ?_; simp only [pX, if_true, if_false, reduceIte, Nat.reduceEqDiff]
  refine W.freezeC 16 (by rw [hr16]; simp) (fun K hK => ?_)
  simp [hr16]
  refine hK _ ?_
  have hr18' : frC2 rows 16 18 = some ⟨v18, e18, 1, [[sls zp L]]⟩ := by
   simp [hr18, hr16, hLl, htk]
  clear hr16 hr18
  generalize frC2 rows 16 = rows2 at *
  refine W.sreg (fun K hK => ?_); simp (disch := omega) [gA, wA]; refine W.lv [2, 3] hK fun J j => ?_; clear hK K; simp; refine j _ ?_; clear j J
  refine W.ret ?_
  simp [go, hr18']
end Go.Proofs.YtdiladmkbpnhoaaGreat
namespace Go.Proofs.YtdiladmkbpnhoaaGreat
open Go Pm
open ZX hiding N W
theorem chT_bd {n : Nat} (hn : n ≤ 20) : ∀ (j s : Nat) (x g : ZX), BZ s n x → BZ s n g → Pot 4500000000 n s x g → ∀ p ∈ chT j x g, BZ 4500000000 n p
 | 0, _, _, _, _, _, _, p, hp => by cases hp
 | j + 1, s, x, g, bx, bg, hP, p, hp => by
  have hs := hP.le
  rw [chT] at hp
  split at hp
  ·cases hp
  ·rename_i h0
   have h0' : g ≠ 0 := ZX.ne_zero.2 (Nat.pos_of_ne_zero h0)
   rcases List.mem_cons.1 hp with rfl | hp
   ·exact bg.mono (by omega) (Nat.le_refl _)
   ·exact chT_bd hn j _ g (nx x g) (bg.mono (by omega) (Nat.le_refl _)) (nx_bd bx bg h0') (hP.step (nx_N h0')) p hp
theorem chT_len : ∀ (j : Nat) (x g : ZX), (chT j x g).length ≤ j
 | 0, _, _ => Nat.le_refl _
 | j + 1, x, g => by
  rw [chT]
  split
  ·simp
  ·simp only [List.length_cons]; have := chT_len j g (nx x g); omega
theorem Ch.all {s n : Nat} {f : ZX} (h : Ch s n f) : (∀ p ∈ chn f, BZ 4500000000 n p) ∧ (chn f).length ≤ 21 := by
 have hp := h.pot
 have hs := hp.le
 have hn := h.hn
 refine ⟨fun p hq => ?_, ?_⟩
 ·rcases List.mem_cons.1 hq with rfl | hq
  ·exact h.bz.mono (by omega) (Nat.le_refl _)
  ·exact chT_bd hn _ _ _ _ (h.bz.mono (by omega) (Nat.le_refl _)) (prim_bd2 (h.bz.der (by omega))) hp p hq
 ·have := chT_len (ZX.N f) f (ps1 (der f))
  have h2 := h.bz.N
  show (f :: chT (ZX.N f) f (ps1 (der f))).length ≤ 21
  simp only [List.length_cons]; omega
theorem sq_free {a u v : ZX} {c : Int} (na : Nf a) (hc : c ≠ 0) (h : u * a + v * der a = K c) : sq a = a := sq_eq na.ne na fun p hp => by
 have hm : mu p a ≤ 1 := by
  rcases Nat.lt_or_ge (mu p a) 2 with h1 | h1
  ·omega
  ·exfalso
   obtain ⟨m, hmm⟩ : ∃ m, mu p a = m + 1 := ⟨mu p a - 1, by omega⟩
   obtain ⟨_, h2⟩ := mu_der hp na.ne hmm
   have d1 : dv p a := by have := (mu_le hp na.ne).1 (show 1 ≤ mu p a by omega); rwa [show p ^ 1 = p by rw [pow_succ', pow_zero']; grind] at this
   have hd : der a ≠ 0 := fun h0 => by rw [h0] at h2; have : mu p (0 : ZX) = m := h2; have h9 := (mu_der hp na.ne hmm).1; exact h9 h0
   have d2 : dv p (der a) := by have := (mu_le hp hd).1 (show 1 ≤ mu p (der a) by omega); rwa [show p ^ 1 = p by rw [pow_succ', pow_zero']; grind] at this
   have d3 : dv p (K c) := by rw [← h]; exact (d1.mul_left u).add (d2.mul_left v)
   have h3 := d3.N_le (K_ne hc)
   have h4 := hp.deg
   rw [N_K hc] at h3
   omega
 omega
theorem qmk_self (q : Rat) : qmk q.num q.den = q := by
 rw [qmk, if_neg (by have := q.den_nz; omega)]
 exact Rat.num_divInt_den q
theorem sml_bd (n d : Int) : (sml n d).num.natAbs ≤ 30 ∧ ((sml n d).den : Int).natAbs ≤ 6 := by
 have h1 := Int.emod_nonneg n (show (61 : Int) ≠ 0 by decide)
 have h2 := Int.emod_lt_of_pos n (show (0 : Int) < 61 by decide)
 have h3 := Int.emod_nonneg d (show (6 : Int) ≠ 0 by decide)
 have h4 := Int.emod_lt_of_pos d (show (0 : Int) < 6 by decide)
 unfold sml
 rw [qmk_num _ _ (by omega), qmk_den _ _ (by omega)]
 rw [if_neg (by omega), if_neg (by omega)]
 refine ⟨Nat.le_trans (Int.natAbs_ediv_le_natAbs _ _) (by omega), Nat.le_trans (Int.natAbs_ediv_le_natAbs _ _) (by omega)⟩
structure SQ (u : Nat) (q : Rat) : Prop where
 n2 : sz 2 q.num ≤ u
 d2 : sz 2 (q.den : Int) ≤ u
 hu : 1 ≤ u
theorem SQ.nL {u : Nat} {q : Rat} (h : SQ u q) : sz LL q.num ≤ u := Nat.le_trans (sz_LL_le _) h.n2
theorem SQ.dL {u : Nat} {q : Rat} (h : SQ u q) : sz LL (q.den : Int) ≤ u := Nat.le_trans (sz_LL_le _) h.d2
theorem sml_sq (n d : Int) : SQ 5 (sml n d) := by
 obtain ⟨h1, h2⟩ := sml_bd n d
 exact ⟨sz_small (by omega), sz_small (by omega), by decide⟩
section
variable {c : List ZX} {n u : Nat} {q : Rat} (hb : ∀ p ∈ c, BZ 4500000000 n p) (hn : n ≤ 20) (hl : c.length ≤ 21) (hq : SQ u q) (hu : u ≤ 1000000000)
include hb hn hl hq hu
theorem TA_ret : Ret env.P 207 [sls zq c, R2 q.num q.den] (.int .i64 (vr (sgs c q.num q.den))) := TurnsAt_ret (by omega) fun p hp => by
 have hmul : n * (u + 1) ≤ 20 * (u + 1) := Nat.mul_le_mul_right _ hn
 exact qSign_ret (hb p hp) hq.n2 hq.d2 hq.hu (by omega) (by show _ < 137438953472; omega)
theorem CT_ret : Ret env.P 120 [CH c, T2 q.num q.den] (.int .i64 (vr (sgs c q.num q.den))) := cTurns_ret (by omega) fun p hp => by
 have hmul : n * (u + 1) ≤ 20 * (u + 1) := Nat.mul_le_mul_right _ hn
 exact pSign_ret (bdL (hb p hp)) p.c hq.nL hq.dL hq.hu (by omega) (by omega) (by omega) (qmk_self q) ⟨hq.nL, hq.dL⟩
end
theorem pbs {c : List ZX} {n : Nat} (hb : ∀ p ∈ c, BZ 4500000000 n p) (hn : n ≤ 20) : ∀ p ∈ c, PB p.l := fun p hp => (hb p hp).pb (by decide) (by omega)
theorem New_nilG {α : Type} {g : α → List PV} {l : List α} (hS : Ret env.P 113 [sls g l] (.sl [])) : Ret env.P 48 [sls g l] (.tup [.pnil, .int .i64 2]) := by
 refine ret_of_Wf (E := env) (fun _ => 0) [(0, sls g l)] Tryz.func48 rfl (by kernel_rfl) (by kernel_rfl) (show 1 ≤ 48 by decide) (by simp) ?_
 refine W.sreg (fun K hK => ?_); simp (disch := omega) [gA, wA]; refine W.lv [0] hK fun J j => ?_; clear hK K; simp; refine j _ ?_; clear j J
 refine W.sreg (fun K hK => ?_)
 simp (disch := omega) [gA, wA]
 refine callR hS ?_
 simp (disch := omega) [gA, wA]
 refine W.lv [4] hK fun J j => ?_; clear hK K; simp; refine j _ ?_; clear j J
 refine W.seq ?_
 refine W.sreg (fun K hK => ?_); simp (disch := omega) [gA, wA]; refine W.lv [4, 14] hK fun J j => ?_; clear hK K; simp; refine j _ ?_; clear j J
 refine W.cond ⟨_, rfl, fun h => ?_, fun h => ?_⟩
 ·refine W.sreg (fun K hK => ?_); simp (disch := omega) [gA, wA]; refine W.lv [2, 3] hK fun J j => ?_; clear hK K; simp; refine j _ ?_; clear j J
  refine W.ret ?_
  simp [go]
 ·simp at h
theorem sq_zero : sq 0 = 0 := by unfold sq; rw [if_pos (by decide), nf_zero]
theorem New_nil : Ret env.P 48 [.sl []] (.tup [.pnil, .int .i64 2]) := by
 have hS := Square_ret (a := 0) (s := 1) (n := 1) ⟨⟨by decide, fun c hc => by cases hc⟩, by decide, by decide, by decide⟩
 rw [sq_zero] at hS
 exact New_nilG (g := ie) (l := []) hS
end Go.Proofs.YtdiladmkbpnhoaaGreat
namespace Go.Proofs.YtdiladmkbpnhoaaGreat
open Go Pm
open ZX hiding N W
def a8 : ZX := ZX.of [-2, 0, 1]
theorem a8_sq : sq a8 = a8 := by
 have nA : Nf a8 := ⟨ZX.ne_zero.2 (by decide), by decide, by decide⟩
 refine sq_free (u := K (-2)) (v := ZX.of [0, 1]) (c := 4) nA (by decide) (ZX.ext fun t => ?_)
 have hd : der a8 = ZX.of [0, 2] := rfl
 rw [hd, ZX.v_add, ZX.v_mul, ZX.v_mul, ZX.v_K, ZX.v_K, a8, ZX.v_of, ZX.v_of, ZX.v_of]
 simp only [V]; grind
theorem a8_facts : vr (sgL (chn a8)) = 2 ∧ vr (sgR (chn a8)) = 0 ∧ vr (sgs (chn a8) 0 1) = 1 ∧ vr (sgs (chn a8) 2 1) = 0 := ⟨by kernel_rfl, by kernel_rfl, by kernel_rfl, by kernel_rfl⟩
theorem T2_zero : (PV.ag [.bool false, .sl [], .bool false, .sl []]) = T2 0 0 := rfl
theorem wakes8_ret : Ret env.P 53 [] (.bool true) := by
 have o1 : Ret env.P 43 [.sl [[.int .i64 (-2)], [.int .i64 0], [.int .i64 1]]] (Po [-2, 0, 1]) := pOf_ret [-2, 0, 1] (by decide) (by decide)
 have hL : Lay 3 3 a8 := ⟨small_bz (by decide) (by decide), by decide, by decide, by decide⟩
 have nA : Nf a8 := ⟨ZX.ne_zero.2 (by decide), by decide, by decide⟩
 have hC := hL.ch nA.ne (by decide)
 have hS := Square_ret hL
 have hN := New_ret hS hC (by rw [a8_sq]; exact nA)
 obtain ⟨hb, hl⟩ := hC.all
 rw [a8_sq] at hN hb hl
 replace hN : Ret env.P 48 [Po [-2, 0, 1]] (.tup [CH (chn a8), .int .i64 0]) := hN
 have hpb := pbs hb (by decide)
 have c1 := cCount_ret (c := chn a8) (by omega) hpb
 have s2 : SQ 5 (2 : Rat) := ⟨by decide, by decide, by decide⟩
 have t2 := CT_ret hb (by decide) hl s2 (by decide)
 have t0 : Ret env.P 120 [CH (chn a8), T2 0 0] (.int .i64 (vr (sgs (chn a8) (0 : Rat).num (0 : Rat).den))) := cTurns_ret (by omega) fun p hp => pSign_ret (n := 0) (d := 0) (u := 5) (bdL (hb p hp)) p.c (by decide) (by decide) (by decide) (by decide) (by decide) (by decide) (q := 0) (by decide) ⟨by decide, by decide⟩
 have z1 := rCmpT_ret (n := 2) (d := 1) (m := 0) (e := 0) (k := 5) (by decide) (by decide) (by decide) (by decide) (by decide) (p := 2) (q := 0) (by decide) (by decide) ⟨by decide, by decide⟩ ⟨by decide, by decide⟩
 have b1 := cBetween_ret (c := chn a8) (by omega) (n := 0) (d := 0) (m := 2) (e := 1) (p := 0) (q := 2) z1 t0 t2
 obtain ⟨f1, f2, f3, f4⟩ := a8_facts
 have e1 : (vr (sgs (chn a8) (0 : Rat).num ((0 : Rat).den : Int))) = 1 := f3
 have e2 : (vr (sgs (chn a8) (2 : Rat).num ((2 : Rat).den : Int))) = 0 := f4
 rw [f1, f2] at c1
 rw [e1, e2] at b1
 rw [if_neg (by decide)] at b1
 have o2 := OfR_ret 2 1 (by decide) (by decide)
 rw [RR_R2, show qmk 2 1 = 2 from by decide] at o2
 have o3 := ToR_ret (n := (2 : Rat).num) (d := ((2 : Rat).den : Int)) (by decide) (by decide)
 rw [show (2 : Rat).num = 2 from rfl, show (((2 : Rat).den : Nat) : Int) = 1 from rfl] at o2 o3
 rw [← T2_zero] at b1
 generalize chn a8 = C at *
 generalize sls zp C = X at *
 refine ret_of_Wf (E := env) (fun _ => 0) [] Tryz.func53 rfl (by kernel_rfl) (by kernel_rfl) (show 0 ≤ 28 by decide) (by simp) ?_
 refine W.sreg (fun K hK => ?_)
 simp (disch := omega) [gA, wA]
 refine W.lv [] hK fun J j => ?_; clear hK K; simp; refine j _ ?_; clear j J
 refine W.sreg (fun K hK => ?_)
 simp (disch := omega) [gA, wA]
 refine callR o1 ?_
 simp (disch := omega) [gA, wA]
 refine callR hN ?_
 simp (disch := omega) [gA, wA]
 refine W.lv [1, 2] hK fun J j => ?_; clear hK K; simp; refine j _ ?_; clear j J
 refine W.sreg (fun K hK => ?_)
 simp (disch := omega) [gA, wA]
 refine callR c1 ?_
 simp (disch := omega) [gA, wA]
 refine callR o2 ?_
 simp (disch := omega) [gA, wA]
 refine callR o3 ?_
 simp (disch := omega) [gA, wA]
 refine callR b1 ?_
 simp (disch := omega) [gA, wA]
 refine W.lv [0] hK fun J j => ?_; clear hK K; simp; refine j _ ?_; clear j J
 refine W.ret ?_
 simp [go]
end Go.Proofs.YtdiladmkbpnhoaaGreat
namespace Go.Proofs.YtdiladmkbpnhoaaGreat
open Go Pm
open ZX hiding N W
theorem made_lay7 (l : List Int) : Lay 153 8 (made l 7) := ⟨(made_ok l 7).2, by decide, by decide, by decide⟩
structure MK (a : ZX) (c : List ZX) : Prop where
 to : Ret env.P 54 [PI a.l] (Po a.l)
 new : Ret env.P 48 [Po a.l] (.tup [CH c, .int .i64 0])
 chain : Ret env.P 89 [PI a.l] (sls zq c)
 bd : ∀ p ∈ c, BZ 4500000000 20 p
 len : c.length ≤ 21
theorem MK.of {s n : Nat} {a : ZX} (h : Lay s n a) (h0 : a ≠ 0) (hn1 : 1 ≤ n) (h1 : 1 ≤ s) : MK a (chn (sq a)) := by
 have hC := h.ch h0 hn1
 obtain ⟨hb, hl⟩ := hC.all
 have hqb := h.qb_le
 have hs : s < 1099511627776 := by unfold qb at hqb; omega
 have hn := h.hn
 exact ⟨toZ_ret h.bz hs (by omega), New_ret (Square_ret h) hC (sq_dv h0).1, qChain_ret h h0 hn1 h1, fun p hp => (hb p hp).mono (Nat.le_refl _) hn, hl⟩
theorem mk7 (l : List Int) : MK (made l 7) (chn (sq (made l 7))) := MK.of (made_lay7 l) (made_ok l 7).1 (by decide) (by decide)
end Go.Proofs.YtdiladmkbpnhoaaGreat
