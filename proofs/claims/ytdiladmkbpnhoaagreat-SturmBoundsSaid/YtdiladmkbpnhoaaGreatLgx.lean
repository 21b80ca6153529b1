import Derived.Test.YtdiladmkbpnhoaaGreatLgt
import Derived.Test.YtdiladmkbpnhoaaGreatLgs
import Derived.Test.YtdiladmkbpnhoaaGreatLgm
set_option linter.unusedSimpArgs false
set_option linter.unusedVariables false
namespace Go.Proofs.YtdiladmkbpnhoaaGreat
open Go Pm
open ZX hiding N W
theorem cauchy_big {S τ t : Rat} (hS : 0 ≤ S) (hτ : 0 < τ) (ht : Big τ t) : ∀ {x : List Int}, Cn x → 0 < x.length → (∀ c ∈ x.dropLast, Ab (c : Rat) S) → S + (((lead x).natAbs : Int) : Rat) ≤ (((lead x).natAbs : Int) : Rat) * τ → Big (((lead x).natAbs : Int) : Rat) (qv t x)
 | [a], hc, _, _, _ => by
  have e1 : qv t [a] = (a : Rat) := by simp only [qv]; grind
  have e2 : lead [a] = a := rfl
  rw [e1, e2]
  by_cases h : 0 ≤ a
  ·right
   exact Rat.intCast_le_intCast.2 (by omega)
  ·left
   rw [← Rat.intCast_neg]
   exact Rat.intCast_le_intCast.2 (by omega)
 | a :: b :: l, hc, _, hb, hL => by
  have hl := lead_ne (Cn_tail hc) (by simp)
  rw [lead_cons] at hL ⊢
  have ih := cauchy_big hS hτ ht (Cn_tail hc) (by simp) (fun c hc => hb c (by
   rw [List.dropLast_cons_of_ne_nil (by simp)]; exact List.mem_cons_of_mem _ hc)) hL
  obtain ⟨h4, h5⟩ := hb a (by rw [List.dropLast_cons_of_ne_nil (by simp)]; simp)
  have e1 : qv t (a :: b :: l) = a + t * qv t (b :: l) := rfl
  have hp : (0 : Rat) < (((lead (b :: l)).natAbs : Int) : Rat) := Rat.intCast_pos.2 (by omega)
  have hm := Big.mul hτ hp ht ih
  rw [e1]
  generalize (((lead (b :: l)).natAbs : Int) : Rat) = L at *
  rcases hm with h | h
  ·left; grind
  ·right; grind
theorem bnd_big {x : List Int} (cx : Cn x) (hx : x ≠ []) {t : Rat} (ht : Big (bnd x) t) : Big 1 (qv t x) ∧ 1 ≤ bnd x := by
 have hx0 := List.length_pos_iff.2 hx
 have hl := lead_ne cx hx0
 have hL : (1 : Rat) ≤ (((lead x).natAbs : Int) : Rat) := one_le_cast (by omega)
 have hm : (0 : Rat) ≤ ((mxa x (x.length - 1) : Int) : Rat) := Rat.intCast_nonneg.2 (mxa_nn _ _)
 have e := bnd_eq cx hx
 have h2 := Rat.div_mul_cancel (a := ((mxa x (x.length - 1) : Int) : Rat)) (b := (((lead x).natAbs : Int) : Rat)) (by grind)
 have hw : (0 : Rat) ≤ ((mxa x (x.length - 1) : Int) : Rat) / (((lead x).natAbs : Int) : Rat) := by
  refine Rat.not_lt.1 fun h => ?_
  have := Rat.mul_le_mul_of_nonneg_left hL (show 0 ≤ -(((mxa x (x.length - 1) : Int) : Rat) / (((lead x).natAbs : Int) : Rat)) by grind)
  grind
 have h1 : 1 ≤ bnd x := by rw [e]; grind
 refine ⟨(cauchy_big hm (show 0 < bnd x by grind) ht cx hx0 (fun c hc => ?_) ?_).mono hL, h1⟩
 ·obtain ⟨k, hk, rfl⟩ := List.mem_iff_getElem.1 hc
  rw [List.length_dropLast] at hk
  have h3 := mxa_ge x (x.length - 1) k hk
  rw [nth_eq (by omega)] at h3
  rw [List.getElem_dropLast]
  constructor
  ·rw [← Rat.intCast_neg]
   exact Rat.intCast_le_intCast.2 (by omega)
  ·exact Rat.intCast_le_intCast.2 (by omega)
 ·rw [e]
  generalize ((mxa x (x.length - 1) : Int) : Rat) / (((lead x).natAbs : Int) : Rat) = w at *
  grind
theorem bnd_facts {a : ZX} (ha : a ≠ 0) (hG : Glob (chn (sq a)) (sq a)) : 1 ≤ bnd a.l ∧ vr (sgR (chn (sq a))) = vt (chn (sq a)) (bnd a.l) ∧ vr (sgL (chn (sq a))) = vt (chn (sq a)) (-bnd a.l) := by
 have hx := ne_l ha
 have h1 := (bnd_big a.c hx (t := bnd a.l) (.inr Rat.le_refl)).2
 refine ⟨h1, ends_right hG fun b => ?_, ends_left hG fun b => ?_⟩
 ·refine Bg.dv ⟨1, by decide, fun x h2 _ => ?_⟩ (sq_dv_a ha)
  exact (bnd_big a.c hx (.inr h2)).1
 ·refine Bg.dv ⟨1, by decide, fun x _ h2 => ?_⟩ (sq_dv_a ha)
  exact (bnd_big a.c hx (.inl h2)).1
theorem bnd_sq {s n : Nat} {x : List Int} (cx : Cn x) (hx : x ≠ []) (b : Bd 2 s n x) : SQ (s + 1) (bnd x) := by
 have hl := lead_ne cx (List.length_pos_iff.2 hx)
 have h1 : sz 2 ((lead x).natAbs : Int) ≤ s := Nat.le_trans (sz_mono (b := 2) (by decide) (by simp)) (lead_bd b)
 have h2 := sz_add (b := 2) (by decide) h1 (mxa_sz b (x.length - 1))
 have h3 := ZR_div (k := s + 1) h2 (Nat.le_trans h1 (by omega)) (by omega : ((lead x).natAbs : Int) ≠ 0)
 rw [← qmk_quot (by omega)] at h3
 exact ⟨h3.n, h3.d, by omega⟩
theorem made_lay6 (l : List Int) : Lay 21 7 (made l 6) := by
 obtain ⟨h1, h2⟩ := made_n1 l 6
 have e1 : 3 * 9 ^ 6 = 1594323 := by decide
 have e2 : 2 ^ 21 = 2097152 := by decide
 exact ⟨BZ.of_n1 (by omega) h2, by decide, by decide, by decide⟩
theorem FromR_sq {u : Nat} {p : Rat} (h : SQ u p) (hu : u ≤ 1000000000) : Ret env.P 63 [RT p] (RR p) := by
 have h1 := h.nL; have h2 := h.dL; have h3 := h.n2; have h4 := h.d2
 exact FromR_ret ⟨by omega, by omega⟩ ⟨by simp only [Y]; omega, by simp only [Y]; omega⟩
set_option maxHeartbeats 4000000 in
theorem SturmBounds_ret (p0 : RP) (l : List Int) (hp0 : InP p0) (hb : ∀ x ∈ l, -9223372036854775808 ≤ x ∧ x < 9223372036854775808) (hl : l.length < 9223372036854775808) :
  Ret env.P 9 [Pg p0, sls i64e l] (.bool true) := by
 obtain ⟨k1, f1, hL, _⟩ := raw8 p0 hp0 6 (by decide) 2 (by decide) (by decide)
 have hNm := pNorm_ret (keepP 6 2 p0) ((Sm.keep hp0 6 2).pok (by omega) (by omega))
 replace hNm : Ret env.P 110 [Pg (keepP 6 2 p0)] (Po (ZX.of ((keepP 6 2 p0).map gv)).l) := hNm
 have hbz := hL.bz
 have hM := Made_ret l hl hb 6 (by decide)
 have h0 := (made_ok l 6).1
 have y1 := made_lay6 l
 have mk := MK.of y1 h0 (by decide) (by decide)
 have hG := y1.glob h0 (by decide)
 obtain ⟨b1, bR, bL⟩ := bnd_facts h0 hG
 have sb := bnd_sq (made l 6).c (ne_l h0) y1.bz
 have sn : SQ 22 (-bnd (made l 6).l) := ⟨by rw [Rat.neg_num]; unfold sz; rw [Int.natAbs_neg]; exact sb.n2, by rw [Rat.neg_den]; exact sb.d2, by decide⟩
 have B1 := pBound_ret (l := (made l 6).l) (g := ie) (pNormI_ret ((y1.bz).pb (by decide) (by decide))) (Cn.cut _) (by rw [show cutR (made l 6).l = (made l 6).l from (made l 6).c]; exact ne_l h0) (by rw [show cutR (made l 6).l = (made l 6).l from (made l 6).c]; exact bdL y1.bz) (by decide) (by decide)
 rw [show cutR (made l 6).l = (made l 6).l from (made l 6).c] at B1
 have A1 := abov mk.bd mk.len sb (by decide)
 rw [bR, Int.sub_self] at A1
 have W1 := betw mk.bd mk.len sn sb (by decide) (by grind)
 have C1 := cCount_ret (c := chn (sq (made l 6))) (by have := mk.len; omega) (pbs mk.bd (by decide))
 rw [bR, bL] at C1
 have T1 := mk.to
 have N1 := mk.new
 have fr := FromR_sq sb (by decide)
 have ng := NegR_ret (bnd (made l 6).l)
 have tn := sn.tor (by decide)
 have hw := wakes8_ret
 have v1 := vt_le (chn (sq (made l 6))) (bnd (made l 6).l)
 have v2 := vt_le (chn (sq (made l 6))) (-bnd (made l 6).l)
 have v3 := mk.len
 have z0 := Zero_ret false []
 by_cases hx : (ZX.of ((keepP 6 2 p0).map gv)).l = []
 ·have B0 : Ret env.P 59 [Pg (keepP 6 2 p0)] (.tup [T2 0 0, .int .i64 2]) := pBound_nil (g := ge) (by rw [hx] at hNm; exact hNm)
  rw [hx] at f1
  rw [← T2_zero] at B0
  clear hNm hL hbz hM mk hG b1 bR bL sb sn B1 A1 W1 C1 T1 N1 fr ng tn v1 v2 v3 y1 h0
  generalize keepP 6 2 p0 = kp at *
  refine ret_of_Wf (E := env) (fun _ => 0) [(0, Pg p0), (1, sls i64e l)] Tryz.func9 rfl (by kernel_rfl) (by kernel_rfl) (show 2 ≤ 89 by decide) (by simp) ?_
  refine W.sreg (fun K hK => ?_); simp (disch := omega) [gA, wA]; refine W.lv [0, 1] hK fun J j => ?_; clear hK K; simp; refine j _ ?_; clear j J
  refine W.sreg (fun K hK => ?_)
  simp (disch := omega) [gA, wA]
  refine callR k1 ?_
  simp (disch := omega) [gA, wA]
  refine W.lv [0, 1] hK fun J j => ?_; clear hK K; simp; refine j _ ?_; clear j J
  refine W.sreg (fun K hK => ?_)
  simp (disch := omega) [gA, wA]
  refine callR f1 ?_
  simp (disch := omega) [gA, wA]
  refine W.lv [0, 1, 5] hK fun J j => ?_; clear hK K; simp; refine j _ ?_; clear j J
  refine W.sreg (fun K hK => ?_)
  simp (disch := omega) [gA, wA]
  refine callR B0 ?_
  simp (disch := omega) [gA, wA]
  refine W.lv [1, 5, 6, 7] hK fun J j => ?_; clear hK K; simp; refine j _ ?_; clear j J
  refine W.seq ?_
  refine W.sreg (fun K hK => ?_); simp (disch := omega) [gA, wA]; refine W.lv [1, 5, 6, 7, 24] hK fun J j => ?_; clear hK K; simp; refine j _ ?_; clear j J
  refine W.cond ⟨_, rfl, fun h => ?_, fun h => ?_⟩
  ·refine W.sreg (fun K hK => ?_)
   simp (disch := omega) [gA, wA]
   refine callR z0 ?_
   simp (disch := omega) [gA, wA]
   refine callR hw ?_
   simp (disch := omega) [gA, wA]
   refine W.lv [4] hK fun J j => ?_; clear hK K; simp; refine j _ ?_; clear j J
   refine W.ret ?_
   simp [go]
  ·simp at h
 ·have hxl : 0 < (ZX.of ((keepP 6 2 p0).map gv)).l.length := List.length_pos_iff.2 hx
  have B0 := pBound_ret (g := ge) (l := keepP 6 2 p0) hNm (ZX.of ((keepP 6 2 p0).map gv)).c hx (bdL hbz) (by decide) (by decide)
  replace B0 : Ret env.P 59 [Pg (keepP 6 2 p0)] (.tup [RT (bnd (ZX.of ((keepP 6 2 p0).map gv)).l), .int .i64 0]) := B0
  have Q0 := qBound_ret (ZX.of ((keepP 6 2 p0).map gv)).c hx hbz (by decide) (by decide) (by decide)
  have sx := bnd_sq (ZX.of ((keepP 6 2 p0).map gv)).c hx hbz
  have S0 := SameR_ret (p := bnd (ZX.of ((keepP 6 2 p0).map gv)).l) (by have := sx.n2; simp only [Z]; omega) (by have := sx.d2; simp only [Z]; omega)
  have hlen := hbz.len
  rw [RR_R2] at Q0 S0 fr ng
  rw [RR_R2] at ng tn
  clear hNm hL hbz mk hG b1 bR bL sb sn y1 h0 sx
  generalize hbx : bnd (ZX.of ((keepP 6 2 p0).map gv)).l = bx at *
  generalize (ZX.of ((keepP 6 2 p0).map gv)).l = xl at *
  generalize keepP 6 2 p0 = kp at *
  generalize bx.num = xn at *
  generalize (bx.den : Int) = xd at *
  generalize vt (chn (sq (made l 6))) (bnd (made l 6).l) = vb at *
  generalize vt (chn (sq (made l 6))) (-bnd (made l 6).l) = va at *
  generalize chn (sq (made l 6)) = C at *
  generalize -bnd (made l 6).l = nb at *
  generalize bnd (made l 6).l = bb at *
  generalize (made l 6).l = al at *
  generalize nb.num = nn at *
  generalize (nb.den : Int) = nd at *
  generalize bb.num = bn at *
  generalize (bb.den : Int) = bd at *
  refine ret_of_Wf (E := env) (fun _ => 0) [(0, Pg p0), (1, sls i64e l)] Tryz.func9 rfl (by kernel_rfl) (by kernel_rfl) (show 2 ≤ 89 by decide) (by simp) ?_
  refine W.sreg (fun K hK => ?_); simp (disch := omega) [gA, wA]; refine W.lv [0, 1] hK fun J j => ?_; clear hK K; simp; refine j _ ?_; clear j J
  refine W.sreg (fun K hK => ?_)
  simp (disch := omega) [gA, wA]
  refine callR k1 ?_
  simp (disch := omega) [gA, wA]
  refine W.lv [0, 1] hK fun J j => ?_; clear hK K; simp; refine j _ ?_; clear j J
  refine W.sreg (fun K hK => ?_)
  simp (disch := omega) [gA, wA]
  refine callR f1 ?_
  simp (disch := omega) [gA, wA]
  refine W.lv [0, 1, 5] hK fun J j => ?_; clear hK K; simp; refine j _ ?_; clear j J
  refine W.sreg (fun K hK => ?_)
  simp (disch := omega) [gA, wA]
  refine callR B0 ?_
  simp (disch := omega) [gA, wA]
  refine W.lv [1, 5, 6, 7] hK fun J j => ?_; clear hK K; simp; refine j _ ?_; clear j J
  refine W.seq ?_
  refine W.sreg (fun K hK => ?_); simp (disch := omega) [gA, wA]; refine W.lv [1, 5, 6, 7, 24] hK fun J j => ?_; clear hK K; simp; refine j _ ?_; clear j J
  refine W.cond ⟨_, rfl, fun h => ?_, fun h => ?_⟩
  ·simp at h; exact absurd h hx
  refine W.skip ?_
  refine W.seq ?_
  refine W.sdrw (fun K hK => ?_)
  simp (disch := omega) [gA, wA]
  refine callR Q0 ?_
  simp (disch := omega) [gA, wA]
  refine callR S0 ?_
  simp (disch := omega) [gA, wA]
  refine W.lv [1, 43] hK fun J j => ?_; clear hK K; simp; refine j _ ?_; clear j J
  refine W.cond ⟨_, rfl, fun h => ?_, fun h => ?_⟩
  ·simp at h
  refine W.skip ?_
  refine W.sreg (fun K hK => ?_)
  simp (disch := omega) [gA, wA]
  refine callR hM ?_
  simp (disch := omega) [gA, wA]
  refine W.lv [8] hK fun J j => ?_; clear hK K; simp; refine j _ ?_; clear j J
  refine W.sreg (fun K hK => ?_)
  simp (disch := omega) [gA, wA]
  refine callR T1 ?_
  simp (disch := omega) [gA, wA]
  refine callR B1 ?_
  simp (disch := omega) [gA, wA]
  refine W.lv [8, 9, 10] hK fun J j => ?_; clear hK K; simp; refine j _ ?_; clear j J
  refine W.sreg (fun K hK => ?_)
  simp (disch := omega) [gA, wA]
  refine callR T1 ?_
  simp (disch := omega) [gA, wA]
  refine callR N1 ?_
  simp (disch := omega) [gA, wA]
  refine W.lv [9, 10, 11, 12] hK fun J j => ?_; clear hK K; simp; refine j _ ?_; clear j J
  refine W.sdrw (fun K hK => ?_)
  simp (disch := omega) [gA, wA]
  refine callR A1 ?_
  simp (disch := omega) [gA, wA]
  refine callR fr ?_
  simp (disch := omega) [gA, wA]
  refine callR ng ?_
  simp (disch := omega) [gA, wA]
  refine callR tn ?_
  simp (disch := omega) [gA, wA]
  refine callR W1 ?_
  simp (disch := omega) [gA, wA]
  refine callR C1 ?_
  simp (disch := omega) [gA, wA]
  refine callR hw ?_
  simp (disch := omega) [gA, wA]
  refine W.lv [4] hK fun J j => ?_; clear hK K; simp; refine j _ ?_; clear j J
  refine W.ret ?_
  simp [go]
end Go.Proofs.YtdiladmkbpnhoaaGreat
