/- For every input the law IsolateValids of chapter 09 returns true, and each argument reads afterwards as it read before. No conditions. -/
import Derived.Test.YtbbjgncblhfegaaGreatRows
import Derived.Test.YtbbjgncblhfegaaGreatPar
import Derived.Test.YtbbjgncblhfegaaGreatPas
set_option linter.unusedSimpArgs false
set_option linter.unusedVariables false
namespace Go.Proofs.YtbbjgncblhfegaaGreat
open Go Pm
open ZX hiding N W
theorem aj1 (x : ZX) (h0 : x ≠ 0) : gz (nf x) (bM (nf x)) = gz x (bM x) := by
 obtain ⟨d1, d2⟩ := DO x
 have e := FU h0
 have e2 : K (jE x.l) * bM (nf x) = bM x := by rw [← JX, e]
 have d3 : dv (bM x) (bM (nf x)) := ⟨jE x.l, l6 h0, 1, by rw [e2]; grind⟩
 have d4 : dv (bM (nf x)) (bM x) := ⟨1, by decide, K (jE x.l), by rw [e2]; show (1 : ZX) * _ = _; grind⟩
 have h1 := (fE x (bM x)).congr d1 d2 d3 d4
 rw [DP h1, (J1 (.inl h0)).VT]
theorem aj2 {s n : Nat} {x : ZX} (b : BZ s n x) (hs : s < 4294967296) (hn : n < 1000) : aK env.P 32 [Po x.l] (PI x.l) := by
 have b := J5 b
 have := uX (x.l.map oL) ⟨fun c hc => by
  simp only [List.mem_map] at hc
  obtain ⟨y, hy, rfl⟩ := hc
  exact ⟨eC eX _, Nat.lt_of_le_of_lt (b.sz y hy) (by omega)⟩, by rw [List.length_map]; exact Nat.lt_of_le_of_lt b.len (by omega)⟩
 rw [bP, ← fY, show aM x.l = x.l from x.c] at this
 exact this
theorem abl {s n : Nat} {x : ZX} (h : rZ s n x) (tT : 1 ≤ n) (oP : 1 ≤ s) (hs : s ≤ 100000) {p : Rat × Rat} {u : Nat} (q1 : SQ u p.1) (q2 : SQ u p.2) (hu : u ≤ 100000000) : ∃ V : Bool, aK env.P 37 [GA x p] (.bool V) ∧ aK env.P 38 [GA x p] (.bool V) := by
 have hn := h.hn
 have hN' := h.bz.N
 have K4 : x.l.length < 1000000 := by show ZX.N x < _; omega
 have N1 := fZ (x := x.l) (h.bz.pb (by omega) (by omega))
 rw [x.c] at N1
 have F2 := jB x.l (by omega)
 have f1 := aj2 h.bz (by omega) (by omega)
 rw [apP]
 rcases Nat.lt_or_ge x.l.length 2 with hl | hl
 ·exact ⟨_, GU K4 N1 F2 hl, KU K4 f1 hl⟩
 have h0 : x ≠ 0 := ZX.aG.2 (by show 0 < x.l.length; omega)
 have F3 := nZ h.bz (by omega) (by omega)
 have bd : BZ (s + 5) n (bM x) := h.bz.bM (by omega)
 have F4 := wS (C := 4500000000) (h.bz.mono (show s ≤ s + 5 by omega) (Nat.le_refl _)) bd (by
  have h1 : ZX.N (nf (bM x)) ≤ ZX.N (nf x) - 1 := by rw [pT, pT]; exact l5 x
  have h2 := ZX.aG.1 h0
  unfold uJ
  rw [pT] at h1 ⊢
  rw [pT] at h1 ⊢
  rw [if_pos (by omega)]
  have h4 : (4 : Nat) ^ ZX.N x ≤ 4 ^ n := Nat.pow_le_pow_right (by decide) hN'
  exact Nat.le_trans (Nat.mul_le_mul (by unfold qb; omega) h4) h.hC) hn (by decide)
 have f2 := n3 h oP
 have ZL : (fl (nf x)).length = 1 ↔ ZX.N (gz x (bM x)) = 1 := by
  rw [aan, abe, aj1 x h0, pT]
  have h3 := ZX.aG.1 (aai (a := x) (b := bM x) (.inl h0))
  have h5 : x.l.length = ZX.N x := rfl
  omega
 by_cases hc : ZX.N (gz x (bM x)) = 1
 ·have k1 := q1.w6 (by omega)
  have k2 := q2.w6 (by omega)
  have c1 := gW p.1 p.2 (q1.yy (by omega)) (q2.yy (by omega))
  have c2 := u5 q1.nL q1.dL q2.nL q2.dL (by omega) (eF p.1) (eF p.2) ⟨q1.nL, q1.dL⟩ ⟨q2.nL, q2.dL⟩
  have hch := h.ch h0 tT
  obtain ⟨hb, eO⟩ := hch.all
  have k4 := xX (lB h) hch (KC h0).1
  have k4' := n5 h h0 tT oP
  have k5 := OS hb hn eO q1 q2 (by omega)
  have k5' := OT hb hn eO q1 q2 (by omega)
  have hmul : n * (u + 1) ≤ 20 * (u + 1) := Nat.mul_le_mul_right _ hn
  have k6 := u7 (J5 h.bz) x.c q1.nL q1.dL q1.hu (by omega) (by omega) (by omega) (eF p.1) ⟨q1.nL, q1.dL⟩
  have k6' := qP h.bz q1.n2 q1.d2 q1.hu (by omega) (by show _ < 137438953472; omega)
  rw [bV] at k1 k2
  rw [bV, bV] at c1 k5'
  refine ⟨_, BC K4 N1 F2 F3 F4 c2 k4 k5 k6 hl (decide_eq_true hc) (BD _ _) rfl, D4 K4 f1 f2 k1 k2 c1 k4' k5' k6' hl (ZL.2 hc) ?_⟩
  rcases BD (p.1.num * p.2.den) (p.2.num * p.1.den) with hz | hz | hz <;> rw [hz] <;> rfl
 ·exact ⟨_, KW K4 N1 F2 F3 F4 hl (decide_eq_false hc), O0 K4 f1 f2 hl (fun hh => hc (ZL.1 hh))⟩
theorem O5 (l : List Int) : rZ 153 6 (made l 5) := ⟨(GD l 5).2, by decide, by decide, by decide⟩
theorem uB (l : List Int) (n d m k : Int) (p0 : RP) (hb : ∀ x ∈ l, -9223372036854775808 ≤ x ∧ x < 9223372036854775808) (hl : l.length < 9223372036854775808) (hn : -9223372036854775808 ≤ n ∧ n < 9223372036854775808) (hd : -9223372036854775808 ≤ d ∧ d < 9223372036854775808)
  (hm : -9223372036854775808 ≤ m ∧ m < 9223372036854775808) (hk : -9223372036854775808 ≤ k ∧ k < 9223372036854775808) (KX : InP p0) : aK env.P 5 [aJ aF l, .int .i64 n, .int .i64 d, .int .i64 m, .int .i64 k, Pg p0] (.bool true) := by
 have hM := KF l hl hb 5 (by decide)
 have hL := O5 l
 have hT := GF hL.bz (by decide) (by decide)
 obtain ⟨k1, f1, hL2, _⟩ := apC p0 KX 4 (by decide) 1 (by decide) (by decide)
 have hS := D0 n d hn hd
 have hS' := D0 m k hm hk
 have hq := aaR n d
 have PC := aaR m k
 have zz : ∀ {v : Int}, sz 2 v ≤ 5 → Z v := fun h => by simp only [Z]; omega
 have r1 := RJ (zz hq.n2) (zz hq.d2)
 have r2 := RJ (zz PC.n2) (zz PC.d2)
 have hw := sG
 have hV : ∀ x : ZX, x = made l 5 ∨ x = ZX.of ((cH 4 1 p0).map gv) → ∃ V : Bool, aK env.P 37 [.ag (G9 x.l (AV n d).num (AV n d).den (AV m k).num (AV m k).den)] (.bool V) ∧ aK env.P 38 [.ag (G9 x.l (AV n d).num (AV n d).den (AV m k).num (AV m k).den)] (.bool V) := fun x hx => by
  rcases hx with rfl | rfl
  ·exact abl hL (by decide) (by decide) (by decide) (p := (AV n d, AV m k)) hq PC (by decide)
  ·exact abl hL2 (by decide) (by decide) (by decide) (p := (AV n d, AV m k)) hq PC (by decide)
 have hsm := Sm.aoI KX 4 1
 have hkl : (cH 4 1 p0).length ≤ 4 := DI 4 1 p0
 have hcf : ∀ i, i < (cH 4 1 p0).length → aK env.P 34 [IV (nth (cH 4 1 p0) i).1 (nth (cH 4 1 p0) i).2] (RI (gv (nth (cH 4 1 p0) i))) ∧ ∃ z : Bool, (z = true ↔ nth (cH 4 1 p0) i = oL (gv (nth (cH 4 1 p0) i))) ∧ aK env.P 33 [RI (gv (nth (cH 4 1 p0) i)), IV (nth (cH 4 1 p0) i).1 (nth (cH 4 1 p0) i).2] (.bool z) := fun i hi => by
  obtain ⟨a1, a2⟩ := hsm.ok _ (bL hi)
  generalize nth (cH 4 1 p0) i = c at *
  have hz : sz LL (gv c) ≤ 1 := by
   have h1 : sz LL (V 4294967296 c.2) ≤ c.2.length := an4 eX a1
   have h2 : sz LL (gv c) = sz LL (V 4294967296 c.2) := by
    unfold gv iv; split
    ·rw [mK]
    ·rfl
   omega
  have sJ : Z (gv c) := by
   have h3 := kG (b := LL) eX (gv c)
   have h4 := Nat.pow_le_pow_right (show 0 < LL by decide) hz
   have h6 : LL = 2 ^ 32 := by decide
   have h5 : sz 2 (gv c) ≤ 32 := cG (by decide) (by
    rw [Nat.pow_one] at h4
    rw [← h6]; omega)
   simp only [Z]; omega
  refine ⟨uW c.1 c.2 (by omega) a1, _, ?_, C8 (gv c) c.1 c.2 sJ (by omega)⟩
  rw [decide_eq_true_eq]
  exact ⟨fun ⟨h1, h2⟩ => Prod.ext h1 h2, fun h => ⟨congrArg Prod.fst h, congrArg Prod.snd h⟩⟩
 rw [bV] at hS hS'
 simp only [G9] at hV
 clear hq PC hL hL2 hsm
 generalize (AV n d).num = an at *
 generalize ((AV n d).den : Int) = ad at *
 generalize (AV m k).num = bn at *
 generalize ((AV m k).den : Int) = bd at *
 generalize made l 5 = X at *
 generalize cH 4 1 p0 = kp at *
 refine aB (E := env) (fun _ => 0) [(0, aJ aF l), (1, .int .i64 n), (2, .int .i64 d), (3, .int .i64 m), (4, .int .i64 k), (5, Pg p0)] Tryz.func5 rfl (by kernel_rfl) (by kernel_rfl) (show 6 ≤ 67 by decide) (by simp) ?_
 refine W.sr ?_; simp (disch := omega) [gw]; refine W.lx [0, 1, 2, 3, 4, 5] ?_; simp
 refine W.sr ?_
 simp (disch := omega) [gw]
 refine aA hM ?_
 simp (disch := omega) [gw]
 refine aA hT ?_
 simp (disch := omega) [gw]
 refine W.lx [1, 2, 3, 4, 5, 13] ?_; simp
 refine W.fO (fun σ => ∃ (x : ZX) (rows : Pm.Rows) (clk : Nat), σ = ⟨fa [(1, .int .i64 n), (2, .int .i64 d), (3, .int .i64 m), (4, .int .i64 k), (13, Po x.l)], rows, clk⟩ ∧ (x = X ∨ x = ZX.of (kp.map gv))) ?_ ?_
 ·refine W.sr ?_
  simp (disch := omega) [gw]
  refine W.lx [1, 2, 3, 4, 5, 13, 21] ?_; simp
  refine W.cond ⟨_, rfl, fun h => ?_, fun h => ?_⟩
  ·refine W.sr ?_
   simp (disch := omega) [gw]
   refine aA k1 ?_
   simp (disch := omega) [gw]
   refine W.lx [1, 2, 3, 4, 13] ?_; simp
   refine W.seq ?_
   refine W.sr ?_
   simp (disch := omega) [gw]
   refine aA f1 ?_
   simp (disch := omega) [gw]
   refine W.lx [1, 2, 3, 4, 13, 29] ?_; simp
   refine W.cond ⟨_, rfl, fun h => ?_, fun h => ?_⟩
   ·refine W.sr ?_
    simp (disch := omega) [gw]
    refine aA hw ?_
    simp (disch := omega) [gw]
    refine W.lx [12] ?_; simp
    refine W.ret ?_
    simp [go]
   ·have hlen : (ZX.of (kp.map gv)).l.length = kp.length := by simp at h; omega
    refine W.skip ?_
    refine W.sr ?_; simp (disch := omega) [gw]; refine W.lx [1, 2, 3, 4, 13, 32, 33] ?_; simp
    refine W.block ?_
    refine W.bB (fun k' σ => ∃ (i : Nat) (rows : Pm.Rows) (clk : Nat), σ = ⟨fa [(1, .int .i64 n), (2, .int .i64 d), (3, .int .i64 m), (4, .int .i64 k), (13, Pg kp), (32, .int .i64 kp.length), (33, .int .i64 i)], rows, clk⟩ ∧ i + k' = kp.length ∧ ∀ j, j < i → nth kp j = oL (gv (nth kp j))) kp.length ?_ ?_
    ·exact ⟨_, .refl, 0, _, _, rfl, by omega, fun j hj => by omega⟩
    rintro k' _ ⟨i, rows, clk, rfl, K6, hj⟩
    refine W.sr ?_; simp (disch := omega) [gw]; refine W.lx [1, 2, 3, 4, 13, 32, 33, 34] ?_; simp
    refine W.seq ?_
    refine W.cond ⟨_, rfl, fun h => ?_, fun h => ?_⟩
    ·have hi : i < kp.length := by simp at h; omega
     obtain ⟨c1, z, hz, c2⟩ := hcf i hi
     refine W.skip ?_
     refine W.seq ?_
     refine W.block ?_
     refine W.sr ?_; simp (disch := omega) [gw]; refine W.lx [1, 2, 3, 4, 13, 14, 32, 33] ?_; simp
     refine W.sd ?_
     simp (disch := omega) [gw, hi]
     refine aA c1 ?_
     simp (disch := omega) [gw, hi]
     refine aA c2 ?_
     simp (disch := omega) [gw, hi]
     refine W.lx [1, 2, 3, 4, 13, 32, 33, 46] ?_; simp
     refine W.cond ⟨_, rfl, fun h => ?_, fun h => ?_⟩
     ·refine W.sr ?_
      simp (disch := omega) [gw]
      refine aA hw ?_
      simp (disch := omega) [gw]
      refine W.lx [12] ?_; simp
      refine W.ret ?_
      simp [go]
     ·have hzt : z = true := by cases z with
       | true => rfl
       | false => simp at h
      refine W.skip ?_
      refine W.cA (fun K hK => ?_); simp (disch := omega) [gw]
      refine hK _ ⟨k' - 1, _, aC _ [1, 2, 3, 4, 13, 32, 33], by omega, i + 1, _, _, rfl, by omega, fun j hj' => ?_⟩
      rcases Nat.lt_or_ge j i with h5 | h5
      ·exact hj j h5
      ·rw [show j = i by omega]; exact hz.1 hzt
    ·have hi : i = kp.length := by simp at h; omega
     subst hi
     have e1 : kp = kp.map fun c => oL (gv c) := by
      refine List.ext_getElem (by simp) fun j h1 h2 => ?_
      rw [List.getElem_map, ← cL h1]
      exact hj j h1
     have e2 : (ZX.of (kp.map gv)).l = kp.map gv := by
      have h3 : (ZX.of (kp.map gv)).l = aM (kp.map gv) := rfl
      have h4 : ∀ y : List Int, (aM y).length = y.length → aM y = y := by
       intro y
       induction y with
       | nil => intro _; rfl
       | cons a y ih =>
        intro hy
        rw [aM] at hy ⊢
        split at hy
        ·simp at hy
        ·rename_i oO
         rw [if_neg oO]
         rw [ih (by simpa using hy)]
      rw [h3]
      exact h4 _ (by rw [← h3, hlen, List.length_map])
     have e3 : Pg kp = Po (ZX.of (kp.map gv)).l := by
      rw [fY, e2, List.map_map]
      conv => lhs; rw [e1]
      rfl
     refine W.exit ?_; simp only [pX, if_true, if_false, reduceIte, Nat.reduceEqDiff]
     rw [e3]
     exact ⟨_, aC _ [1, 2, 3, 4, 13], _, _, _, rfl, .inr rfl⟩
  ·refine W.skip ?_
   exact ⟨_, aC _ [1, 2, 3, 4, 13], X, _, _, rfl, .inl rfl⟩
 rintro _ ⟨x, rows, clk, rfl, hx⟩
 obtain ⟨V, v1, v2⟩ := hV x hx
 refine W.sr ?_
 simp (disch := omega) [gw]
 refine aA hS ?_
 simp (disch := omega) [gw]
 refine aA r1 ?_
 simp (disch := omega) [gw]
 refine aA hS' ?_
 simp (disch := omega) [gw]
 refine aA r2 ?_
 simp (disch := omega) [gw]
 refine W.lx [15] ?_; simp
 refine W.sd ?_
 simp (disch := omega) [gw]
 refine aA v1 ?_
 simp (disch := omega) [gw]
 refine aA v2 ?_
 simp (disch := omega) [gw]
 refine aA hw ?_
 simp (disch := omega) [gw]
 refine W.lx [12] ?_; simp
 refine W.ret ?_
 simp [go]
end Go.Proofs.YtbbjgncblhfegaaGreat
set_option linter.unusedSimpArgs false
set_option linter.unusedVariables false
namespace Go.Proofs.YtbbjgncblhfegaaGreat.isolateValids
open Go Pm Go.ChangeShapes Go.WideShapes Go.ChangeAt Go.RowKit
theorem GV : sK Tryz.prog 3 (fun ps => ∃ n : Int, ps = aF n ∧ -9223372036854775808 ≤ n ∧ n < 9223372036854775808) :=
  (sK.int .i64 (by kernel_rfl)).mono fun ps ⟨n, h1, h2, h3⟩ => ⟨n, h1, by simpa [IntKind.min, IntKind.signed, IntKind.bits] using h2, by simp [IntKind.max, IntKind.signed, IntKind.bits] at h3; omega⟩
theorem BG : nS Tryz.prog 22 (fun q => ∃ l : List Int, q = aJ aF l ∧ (∀ x ∈ l, -9223372036854775808 ≤ x ∧ x < 9223372036854775808) ∧ l.length < 9223372036854775808) :=
  (nS.slice (e := 3) (by kernel_rfl) (by rw [show Tryz.prog.cellsOf 3 = 1 by kernel_rfl]; decide) GV).mono fun q ⟨l, h1, h2, h3⟩ => by
    obtain ⟨m, rfl, hm⟩ := maps (g := aF) (Q := fun n => -9223372036854775808 ≤ n ∧ n < 9223372036854775808) (fun ps h => h) h2
    exact ⟨m, h1, hm, by rw [List.length_map] at h3; simp only [maxLen] at h3; omega⟩
set_option maxRecDepth 100000 in
theorem lifted (os : Os) (started : os.Started) (H : Type) (enc : TypeId × Value → H) :
    ReturnsInHanded {} Tryz.checked os 5 .any (Rows.isolateValidsSpec.pre6 enc Tryz.prog Tryz.f5 Rows.isolateValidsRow.domain false) (Rows.isolateValidsSpec.post enc Tryz.prog Tryz.f5 false true false false) := by
  refine zJ (C := Tryz.checked) (Qs := [fun q => ∃ l : List Int, q = aJ aF l ∧ (∀ x ∈ l, -9223372036854775808 ≤ x ∧ x < 9223372036854775808) ∧ l.length < 9223372036854775808, fun q => ∃ n : Int, q = .int .i64 n ∧ -9223372036854775808 ≤ n ∧ n < 9223372036854775808, fun q => ∃ n : Int, q = .int .i64 n ∧ -9223372036854775808 ≤ n ∧ n < 9223372036854775808, fun q => ∃ n : Int, q = .int .i64 n ∧ -9223372036854775808 ≤ n ∧ n < 9223372036854775808, fun q => ∃ n : Int, q = .int .i64 n ∧ -9223372036854775808 ≤ n ∧ n < 9223372036854775808, fun q => ∃ p : RP, q = Pg p ∧ InP p]) (tb := 4) own laidOut started (by kernel_rfl) Tryz.func5
    (ChangeSpec.witness6 (enc := enc) (C := Tryz.checked) false ⟨#[], #[.slice none 0 0, .int .i64 0, .int .i64 0, .int .i64 0, .int .i64 0, .slice none 0 0], []⟩ 16 (by kernel_rfl) (by kernel_rfl) (by kernel_rfl) (by kernel_rfl)) rfl ?_ (by kernel_rfl) (by kernel_rfl) ?_ ?_
  · intro ds h
    rw [show Tryz.f5.params.size = 6 by kernel_rfl] at h
    match ds, h with
    | [_, _, _, _, _, _], _ => rfl
  · rw [show Tryz.f5.params.toList = [22, 3, 3, 3, 3, 31] by kernel_rfl]
    exact ⟨BG, by kernel_rfl, of_decide_eq_true (by kernel_rfl), xP, by kernel_rfl, of_decide_eq_true (by kernel_rfl), xP, by kernel_rfl, of_decide_eq_true (by kernel_rfl), xP, by kernel_rfl, of_decide_eq_true (by kernel_rfl), xP, by kernel_rfl, of_decide_eq_true (by kernel_rfl), JI, by kernel_rfl, of_decide_eq_true (by kernel_rfl), trivial⟩
  · rintro ps h
    obtain ⟨_, _, rfl, ⟨a0, rfl, h0, g0⟩, ⟨_, _, rfl, ⟨a1, rfl, h1⟩, ⟨_, _, rfl, ⟨a2, rfl, h2⟩, ⟨_, _, rfl, ⟨a3, rfl, h3⟩, ⟨_, _, rfl, ⟨a4, rfl, h4⟩, ⟨_, _, rfl, ⟨a5, rfl, h5⟩, rfl⟩⟩⟩⟩⟩⟩ := h
    exact uB a0 a1 a2 a3 a4 a5 h0 g0 h1 h2 h3 h4 h5
theorem z1 : (Rows.isolateValidsRow.inPlace == Tryz.pinned.checked.prog.inPlace 5) = true := by kernel_rfl
theorem z2 : (Rows.isolateValidsRow.unfollowed == Tryz.pinned.checked.prog.unfollowed 5) = true := by kernel_rfl
theorem z3 : (Rows.isolateValidsRow.recurses == Tryz.pinned.checked.prog.recurses 5) = true := by kernel_rfl
theorem z4 : (Rows.isolateValidsRow.named == Tryz.pinned.checked.prog.varsNamed 5) = true := by kernel_rfl
theorem closed : joinedFacts Tryz.pinned.checked.prog 5 Tryz.f5 Rows.isolateValidsSpec Rows.isolateValidsRow = true := by
  unfold joinedFacts
  rw [z1, z2, z3, z4]
  kernel_rfl
theorem proved : Rows.IsolateValidsSaid :=
  OpenClaim.holds_of_wide 5 Tryz.f5 rfl rfl rfl rfl rfl rfl rfl ⟨rfl, rfl, rfl, rfl, rfl⟩ rfl rfl rfl rfl rfl (by kernel_rfl) Tryz.func5 closed
    (of_decide_eq_true (by kernel_rfl)) (by unfold Func.isWrapper; first | (rw [if_pos (by decide +kernel)]; kernel_rfl) | (rw [if_neg (by decide +kernel)]; exact ⟨rfl, rfl⟩))
    (fun os started H enc _ => lifted os started H enc)
#print axioms proved
end Go.Proofs.YtbbjgncblhfegaaGreat.isolateValids
