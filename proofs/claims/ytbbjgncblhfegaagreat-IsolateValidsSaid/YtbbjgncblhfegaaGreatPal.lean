import Derived.Test.YtbbjgncblhfegaaGreatPaf
import Derived.Test.YtbbjgncblhfegaaGreatPaj
import Derived.Test.YtbbjgncblhfegaaGreatPak
set_option linter.unusedSimpArgs false
set_option linter.unusedVariables false
namespace Go.Proofs.YtbbjgncblhfegaaGreat
open Go Pm
structure PD (x : List Int) : Prop where
 sz : ∀ v ∈ x, sz LL v < 1099511627774
 len : x.length < 1099511627774
theorem PD.of {s n : Nat} {x : List Int} (h : Bd LL s n x) (hs : s < 1099511627774) (hn : n < 1099511627774) : PD x := ⟨fun v hv => Nat.lt_of_le_of_lt (h.sz v hv) hs, Nat.lt_of_le_of_lt h.len hn⟩
theorem ajd (v : Int) : V 4294967296 (aQ LL v.natAbs) = v.natAbs := i5 eX v.natAbs
theorem FG {v c : Int} (hv : sz LL v < 1099511627774) (hc : sz LL c < 1099511627774) (h0 : c ≠ 0) : aK env.P 234 [I v, I c] (if v % c = 0 then .eA [I (v / c), .int .i64 0] else .eA [I 0, .int .i64 3]) := by
 have := NC (decide (v < 0)) (decide (c < 0)) (aQ LL v.natAbs) (aQ LL c.natAbs) ⟨eC eX _, by unfold sz at hv; omega⟩ ⟨eC eX _, by unfold sz at hc; omega⟩ hv hc (by rw [ajd]; omega)
 rwa [zH, zH] at this
def oQ (c v : Int) : Int := if v % c = 0 then v / c else 0
theorem JJ (x : List Int) (c : Int) (hx : PD x) (hc : sz LL c < 1099511627774) (h0 : c ≠ 0) : aK env.P 223 [Po x, I c] (Po (aM (x.map (oQ c)))) := by
 have hxl := hx.len
 refine aB (E := env) (fun _ => 0) [(0, Po x), (1, I c)] Tryz.func223 rfl (by kernel_rfl) (by kernel_rfl) (show 2 ≤ 30 by decide) (by simp) ?_
 refine W.sr ?_; simp (disch := omega) [gw]; refine W.lx [0, 3] ?_; simp
 refine W.sr ?_; simp (disch := omega) [gw]; refine W.lx [0, 3, 5] ?_; simp
 refine W.row (id := 10) (emap ie (List.replicate x.length 0)) (by simp; exact ⟨rfl, rfl, rfl⟩) (pH _) ?_
 refine W.seq ?_
 refine W.sr ?_; simp (disch := omega) [gw]; refine W.lx [3, 5, 11, 12, 13] ?_; simp
 refine W.block ?_
 refine W.bB (fun q σ => ∃ (i : Nat) (z : List Int) (v10 : Nat) (rows : Pm.Rows) (clk : Nat), σ = ⟨fa [(3, .ptr 3 0 0 0), (5, .own 10 v10 0 x.length), (11, Po x), (12, .int .i64 x.length), (13, .int .i64 i)], rows, clk⟩ ∧
  rows 3 = some ⟨0, 40, 2, [ie c]⟩ ∧ rows 10 = some ⟨v10, 40, 2, emap ie z⟩ ∧ q = x.length - i ∧ i ≤ x.length ∧ z.length = x.length ∧ z.take i = (x.take i).map (oQ c)) x.length ?_ ?_
 ·exact ⟨_, .refl, 0, List.replicate x.length 0, _, _, _, rfl, by simp, by simp, by omega, by omega, by simp, by simp⟩
 rintro q _ ⟨i, z, v10, rows, clk, rfl, fK, JK, hq, hi, hz, hv⟩
 refine W.sr ?_; simp (disch := omega) [gw]; refine W.lx [3, 5, 11, 12, 13, 14] ?_; simp
 refine W.seq ?_
 refine W.cond ⟨_, rfl, fun h => ?_, fun h => ?_⟩
 ·have hi : i < x.length := by simp at h; omega
  have hE := FG (hx.sz _ (bL hi)) hc h0
  have hE2 : aK env.P 234 [I (nth x i), I c] (.eA [I (oQ c (nth x i)), .int .i64 (if nth x i % c = 0 then 0 else 3)]) := by
   unfold oQ
   split at hE
   ·rename_i h1; rw [if_pos h1, if_pos h1]; exact hE
   ·rename_i h1; rw [if_neg h1, if_neg h1]; exact hE
  have hts : (x.take (i + 1)).map (oQ c) = (x.take i).map (oQ c) ++ [oQ c (nth x i)] := by rw [aX hi]; simp
  generalize (if nth x i % c = 0 then (0 : Int) else 3) = er at *
  generalize oQ c (nth x i) = ev at *
  generalize hxe : nth x i = xi at *
  refine W.skip ?_
  refine W.seq ?_
  refine W.block ?_
  refine W.sr ?_; simp (disch := omega) [gw, hxe]; refine W.lx [3, 5, 6, 7, 11, 12, 13] ?_; simp
  refine W.cA (fun K hK => ?_)
  simp (disch := omega) [gw, fK]
  refine aA hE2 ?_
  simp (disch := omega) [gw, JK, hz]
  refine W.lw [3, 5, 11, 12, 13] hK ?_; clear hK K; simp
  refine W.cA (fun K hK => ?_); simp (disch := omega) [gw]
  refine hK _ ⟨x.length - (i + 1), _, aC _ [3, 5, 11, 12, 13], by omega, i + 1, z.set i ev, v10, _, _, rfl, by simp [fK], by simp, by omega, by omega, by simp [hz], ?_⟩
  rw [kW hv (by omega), hts]
 ·have hi : i = x.length := by simp at h; omega
  subst hi
  rw [bH hz, List.take_length] at hv
  have sJ := bH hz
  refine W.exit ?_; simp only [pX, if_true, if_false, reduceIte, Nat.reduceEqDiff]
  have hzb : PB z := by
   rw [hv]
   refine ⟨fun v hv => ?_, by simpa using by omega⟩
   simp only [List.mem_map] at hv
   obtain ⟨w, hw, rfl⟩ := hv
   have h1 := hx.sz w hw
   show sz LL (oQ c w) < 1099511627776
   refine Nat.lt_of_le_of_lt (cC eX (y := w) ?_) (by omega)
   unfold oQ; split
   ·exact Int.natAbs_ediv_le_natAbs _ _
   ·simp
  have hN := fZ hzb
  rw [hv] at hN JK sJ
  generalize x.map (oQ c) = y at *
  have K5 : y.length = x.length := by rw [← hv]; exact hz
  refine W.sr ?_
  simp (disch := omega) [gw, JK, sJ]
  refine aA hN ?_
  simp (disch := omega) [gw]
  refine W.lx [4] ?_; simp
  refine W.ret ?_
  simp [go]
theorem JL (l : List RP) (K0 : Nat) (hK0 : K0 < 1099511627774) (hp : ∀ p ∈ l, ∀ c ∈ p, bW 4294967296 c.2 ∧ c.2.length ≤ K0) (hl : l.length < 1099511627776) (hf : l.flatten.length < 1099511627776) :
  aK env.P 222 [aJ pe l] (I (bI (l.flatten.map gv))) := by
 refine aB (E := env) (fun _ => 0) [(0, aJ pe l)] Tryz.func222 rfl (by kernel_rfl) (by kernel_rfl) (show 1 ≤ 18 by decide) (by simp) ?_
 refine W.sr ?_; simp (disch := omega) [gw]; refine W.lx [0, 2] ?_; simp
 refine W.sr ?_; simp (disch := omega) [gw]; refine W.lx [0, 2, 3] ?_; simp
 refine W.nil 3 3 40 2 (by simp) (by decide) (fun K hK => ?_)
 refine W.lw [0, 2, 3] hK ?_; clear hK K; simp
 refine W.seq ?_
 refine W.sr ?_; simp (disch := omega) [gw]; refine W.lx [2, 3, 6, 7, 8] ?_; simp
 refine W.block ?_
 refine W.bB (fun q σ => ∃ (i v3 : Nat) (A : RP) (rows : Pm.Rows) (clk : Nat), σ = ⟨fa [(2, .ptr 2 0 0 0), (3, .own 3 v3 0 A.length), (6, aJ pe l), (7, .int .i64 l.length), (8, .int .i64 i)], rows, clk⟩ ∧
  rows 2 = some ⟨0, 40, 2, [[.bool false, .nil]]⟩ ∧ rows 3 = some ⟨v3, 40, 2, emap ge A⟩ ∧ q = l.length - i ∧ i ≤ l.length ∧ A = (l.take i).flatten) l.length ?_ ?_
 ·exact ⟨_, .refl, 0, _, [], _, _, rfl, by simp, by simp [emap], by omega, by omega, by simp⟩
 rintro q _ ⟨i, v3, A, rows, clk, rfl, cM, fK, hq, hi, hA⟩
 refine W.sr ?_; simp (disch := omega) [gw]; refine W.lx [2, 3, 6, 7, 8, 9] ?_; simp
 refine W.seq ?_
 refine W.cond ⟨_, rfl, fun h => ?_, fun h => ?_⟩
 ·have hi : i < l.length := by simp at h; omega
  have hfs : (l.take (i + 1)).flatten = (l.take i).flatten ++ nth l i := by rw [aX hi]; simp
  have ZL : (l.take (i + 1)).flatten.length ≤ l.flatten.length := by
   have e := List.take_append_drop (i + 1) l
   have e2 : l.flatten = (l.take (i + 1)).flatten ++ (l.drop (i + 1)).flatten := by rw [← List.flatten_append, e]
   rw [e2, List.length_append]; omega
  have YW : (l.take i).flatten.length + (nth l i).length < 1099511627776 := by
   rw [hfs, List.length_append] at ZL; omega
  have hls : (l.take (i + 1)).flatten.length = (l.take i).flatten.length + (nth l i).length := by rw [hfs, List.length_append]
  rw [← hA] at hfs YW hls
  generalize hpe : nth l i = p at *
  refine W.skip ?_
  refine W.seq ?_
  refine W.block ?_
  refine W.sr ?_; simp (disch := omega) [gw, hpe]; refine W.lx [2, 3, 5, 6, 7, 8] ?_; simp
  refine W.cA (fun K hK => ?_)
  simp (disch := omega) [gw, fK]
  refine W.lw [2, 3, 6, 7, 8] hK ?_; clear hK K; simp
  refine W.cA (fun K hK => ?_); simp (disch := omega) [gw]
  refine hK _ ⟨l.length - (i + 1), _, Gh.fr [(2, .ptr 2 0 0 0), (3, .own 3 _ 0 (A ++ p).length), (6, aJ pe l), (7, .int .i64 l.length), (8, .int .i64 ((i + 1 : Nat) : Int))] (by simp; exact rfl), by omega, i + 1, _, A ++ p, _, _, rfl, by simp [cM], by simp, by omega, by omega, hfs.symm⟩
 ·have hi : i = l.length := by simp at h; omega
  subst hi
  rw [List.take_length] at hA
  have hG := I5 l.flatten K0 hK0 (fun c hc => by
   obtain ⟨p, O9, hcp⟩ := List.mem_flatten.1 hc
   exact hp p O9 c hcp) hf
  rw [← hA] at hG ⊢
  generalize (bI (A.map gv) : Int) = g at *
  refine W.exit ?_; simp only [pX, if_true, if_false, reduceIte, Nat.reduceEqDiff]
  refine W.sr ?_
  simp (disch := omega) [gw, fK]
  refine aA hG ?_
  simp (disch := omega) [gw, cM]
  refine W.lx [2] ?_; simp
  refine W.ret ?_
  simp [go]
theorem jQ {x : List Int} (hx : PB x) (hc : Cn x) : aK env.P 138 [Po x] (I (lead x)) := by
 have := I2 (x.map oL) hx.z5
 rw [show kQ (x.map oL) = aM x by simp only [kQ, bP], show aM x = x from hc, ← fY] at this
 exact this
theorem jB (x : List Int) (hx : x.length < 9223372036854775808) : aK env.P 102 [Po x] (.int .i64 ((x.length : Int) - 1)) := by
 have := adF (x.map oL) (by simpa using hx)
 rw [List.length_map, ← fY] at this
 exact this
theorem wG {x : List Int} {c : Int} (hx : PB x) (hc : Sz c) : aK env.P 218 [Po x, I c] (Po (aV x c)) := by
 have := M4 (x.map oL) hx.z5 (decide (c < 0)) (aQ LL c.natAbs) hc.VR
 rw [bP, zH, ← fY] at this
 exact this
theorem pL (i : Nat) (x : Int) : (List.replicate (i + 1) (0 : Int)).set i x = oK i x := by
 rw [List.replicate_succ', List.set_append]
 simp [oK]
theorem NI (a b : RP) {s s' N : Nat} (ha : qF a) (hb : qF b) (sa : Bd LL s N (a.map gv)) (sb : Bd LL s' N (b.map gv)) (hB : s + N * (s' + N + 1) + s' + N + N + 10 < 1099511627774) :
  aK env.P 224 [Pg a, Pg b] (if kQ b = [] then .eA [Po [], Po [], .int .i64 0, .int .i64 2] else .eA [Po (wC (kQ a) (kQ b)).1, Po (wC (kQ a) (kQ b)).2, .int .i64 (iD (kQ a) (kQ b)), .int .i64 0]) := by
 have hA : Bd LL s N (kQ a) := sa.cut
 have QI : Bd LL s' N (kQ b) := sb.cut
 have ca : Cn (kQ a) := Cn.cut _
 have cb : Cn (kQ b) := Cn.cut _
 have na := gH a ha
 have nb := gH b hb
 rw [show aM (a.map gv) = kQ a from rfl] at na
 rw [show aM (b.map gv) = kQ b from rfl] at nb
 refine aB (E := env) (fun _ => 0) [(0, Pg a), (1, Pg b)] Tryz.func224 rfl (by kernel_rfl) (by kernel_rfl) (show 2 ≤ 65 by decide) (by simp) ?_
 generalize kQ a = x at *
 generalize kQ b = y at *
 refine W.sr ?_; simp (disch := omega) [gw]; refine W.lx [0, 1, 4] ?_; simp
 refine W.TG 4 (Po []) (by simp) rfl (fun K hK => ?_)
 refine W.lw [0, 1, 4] hK ?_; clear hK K; simp
 refine W.sr ?_
 simp (disch := omega) [gw]
 refine aA na ?_
 simp (disch := omega) [gw]
 refine aA nb ?_
 simp (disch := omega) [gw]
 refine W.lx [1, 4, 5] ?_; simp
 refine W.seq ?_
 refine W.sr ?_; simp (disch := omega) [gw]; refine W.lx [1, 4, 5, 18] ?_; simp
 refine W.cond ⟨_, rfl, fun h => ?_, fun h => ?_⟩
 ·have h : y = [] := by simp at h; exact h
  rw [if_pos h]
  refine W.sr ?_; simp (disch := omega) [gw]; refine W.lx [4, 5, 6, 7] ?_; simp
  refine W.ret ?_
  simp [go]
  rfl
 have hy : y ≠ [] := by simp at h; exact h
 clear h
 rw [if_neg hy]
 have M5 : 0 < y.length := List.length_pos_iff.2 hy
 have hNx := hA.len
 have hNy := QI.len
 have hsy := eQ QI
 have hmN : N * (s' + N + 1) ≥ 0 := Nat.zero_le _
 have hL := jQ (PB.of QI (by omega) (by omega)) cb
 have hDx := jB x (by omega)
 have hDy := jB y (by omega)
 refine W.skip ?_
 refine W.sr ?_
 simp (disch := omega) [gw]
 refine aA hL ?_
 simp (disch := omega) [gw]
 refine W.lx [1, 4, 5, 8] ?_; simp
 have hkk : (if (0 : Int) < (x.length : Int) - 1 - ((y.length : Int) - 1) + 1 then (x.length : Int) - 1 - ((y.length : Int) - 1) + 1 else 0) = (iD x y : Int) := by unfold iD; split <;> omega
 refine W.sr ?_
 simp (disch := omega) [gw]
 refine aA hDx ?_
 simp (disch := omega) [gw]
 refine aA hDy ?_
 simp (disch := omega) [gw, hkk]
 refine W.lx [1, 4, 5, 6, 8] ?_; simp
 have hkN : iD x y ≤ N := by unfold iD; omega
 have hsl := hsy
 generalize hdd : s' + N + 1 = d at *
 have ZM : ∀ j, j ≤ N → (N - j) * d ≤ N * d := fun j _ => Nat.mul_le_mul_right _ (by omega)
 refine W.seq ?_
 refine W.sr ?_; simp (disch := omega) [gw]; refine W.lx [1, 4, 5, 6, 8, 9] ?_; simp
 refine W.block ?_
 refine W.bB (fun j σ => ∃ (q r : List Int) (rows : Pm.Rows) (clk : Nat), σ = ⟨fa [(1, Po y), (4, Po q), (5, Po r), (6, .int .i64 (iD x y)), (8, .ptr 8 0 0 0), (9, .int .i64 ((j : Int) - 1))], rows, clk⟩ ∧
  rows 8 = some ⟨0, 40, 2, [ie (lead y)]⟩ ∧ j ≤ iD x y ∧ ps y (lead y) j q r = wC x y ∧ Bd LL (s + (N - j) * d) (N + N) q ∧ Bd LL (s + (N - j) * d) (N + N) r ∧ Cn r) (iD x y) ?_ ?_
 ·exact ⟨_, .refl, [], x, _, _, rfl, by simp, by omega, rfl, ⟨by simp, fun c hc => by cases hc⟩, hA.mono (by omega) (by omega), ca⟩
 rintro j _ ⟨q, r, rows, clk, rfl, xG, hj, wH, bq, br, cr⟩
 refine W.seq ?_
 refine W.sr ?_; simp (disch := omega) [gw]; refine W.lx [1, 4, 5, 6, 8, 9, 31] ?_; simp
 refine W.cond ⟨_, rfl, fun h => ?_, fun h => ?_⟩
 ·have hj0 : 0 < j := by simp at h; omega
  obtain ⟨i, rfl⟩ : ∃ i, j = i + 1 := ⟨j - 1, by omega⟩
  clear h
  have ei : ((i + 1 : Nat) : Int) - 1 = i := by omega
  rw [ei]
  have hN1 := ZM (i + 1) (by omega)
  have hT : s + (N - i) * d = s + (N - (i + 1)) * d + s' + N + 1 := by
   rw [show N - i = (N - (i + 1)) + 1 by omega, Nat.add_mul, Nat.one_mul]; omega
  obtain ⟨b1, b2⟩ := zB eX QI bq br (show i < N by omega)
  rw [← hT] at b1 b2
  have NJ := ZM i (by omega)
  have hx := YH (y := y) (i := i) br
  have bs := Bd.oK hx i
  have hLr := jQ (PB.of br (by omega) (by omega)) cr
  have hDr := jB r (by have := br.len; omega)
  have bqs := bq.aV eX hsy
  have brs := br.aV eX hsy
  have bm := bs.bJ eX QI
  have f1 := wG (c := lead y) (PB.of bq (by omega) (by omega)) (show sz LL (lead y) < 1099511627776 by omega)
  have f2 := wG (c := lead y) (PB.of br (by omega) (by omega)) (show sz LL (lead y) < 1099511627776 by omega)
  have f3 := UA (PB.of bqs (by omega) (by omega)) (PB.of bs (by omega) (by omega))
  have f4 := DH bs QI (by omega)
  have f5 := DF (PB.of brs (by omega) (by omega)) (PB.of bm (by omega) (by omega))
  rw [show fX (aV q (lead y)) (oK i (s6 y r i)) = psq (lead y) (s6 y r i) i q from rfl] at f3
  rw [show dX (aV r (lead y)) (bJ (oK i (s6 y r i)) y) = uF y (lead y) (s6 y r i) i r from rfl] at f5
  have cr2 : Cn (uF y (lead y) (s6 y r i) i r) := Cn.dX _ _
  have hpx : s6 y r i = if r.length = y.length + i then lead r else 0 := rfl
  rw [ps] at wH
  generalize hq2 : psq (lead y) (s6 y r i) i q = q2 at *
  generalize cM : uF y (lead y) (s6 y r i) i r = r2 at *
  generalize bJ (oK i (s6 y r i)) y = pm at *
  generalize aV q (lead y) = pq at *
  generalize aV r (lead y) = pr at *
  generalize s6 y r i = xx at *
  have ZN := pL i xx
  have aje : (oK i xx).length = i + 1 := by simp [oK]
  generalize lead r = lr at *
  generalize lead y = ly at *
  refine W.skip ?_
  refine W.seq ?_
  refine W.block ?_
  refine W.sr ?_; simp (disch := omega) [gw]; refine W.lx [1, 4, 5, 6, 8, 9, 10] ?_; simp
  refine W.row (id := 10) (els := [[.bool false, .nil]]) [ie 0] (by simp; exact ⟨rfl, rfl, rfl⟩) ⟨⟨.inl (by simp), .inr ⟨rfl, rfl⟩, trivial⟩, trivial⟩ ?_
  refine W.fO (fun σ => ∃ (v10 : Nat) (rows : Pm.Rows) (clk : Nat), σ = ⟨fa [(1, Po y), (4, Po q), (5, Po r), (6, .int .i64 (iD x y)), (8, .ptr 8 0 0 0), (9, .int .i64 i), (10, .ptr 10 v10 0 0)], rows, clk⟩ ∧ rows 8 = some ⟨0, 40, 2, [ie ly]⟩ ∧ rows 10 = some ⟨v10, 40, 2, [ie xx]⟩) ?_ ?_
  ·
   refine W.sr ?_
   simp (disch := omega) [gw]
   refine aA hDr ?_
   simp (disch := omega) [gw]
   refine aA hDy ?_
   simp (disch := omega) [gw]
   refine W.lx [1, 4, 5, 6, 8, 9, 10, 40] ?_; simp
   by_cases TL : r.length = y.length + i
   ·rw [if_pos TL] at hpx
    subst hpx
    refine W.cond ⟨_, rfl, fun h => ?_, fun h => ?_⟩
    ·refine W.cA (fun K hK => ?_)
     simp (disch := omega) [gw]
     refine aA hLr ?_
     simp (disch := omega) [gw]
     exact hK _ ⟨_, aC _ [1, 4, 5, 6, 8, 9, 10], _, _, _, rfl, by simp [xG], by simp⟩
    ·exfalso; simp at h; omega
   ·rw [if_neg TL] at hpx
    subst hpx
    refine W.cond ⟨_, rfl, fun h => ?_, fun h => ?_⟩
    ·exfalso; simp at h; omega
    ·refine W.skip ?_
     exact ⟨_, aC _ [1, 4, 5, 6, 8, 9, 10], _, _, _, rfl, by simp [xG], by simp⟩
  rintro _ ⟨v10, rows, clk, rfl, xG, JK⟩
  have e9 : ((i : Int) + 1).toNat = i + 1 := by omega
  refine W.sr ?_; simp (disch := omega) [gw, e9]; refine W.lx [1, 4, 5, 6, 8, 9, 10, 11] ?_; simp
  refine W.row (id := 45) (emap ie (List.replicate (i + 1) 0)) (by simp; exact ⟨rfl, rfl, rfl⟩) (pH _) ?_
  refine W.sr ?_
  simp (disch := omega) [gw, JK, ZN]
  refine W.lx [1, 4, 5, 6, 8, 9, 11] ?_; simp
  have lI := bH aje
  refine W.freeze 45 (by simp) (fun K hK => ?_)
  simp [lI]
  refine hK _ ?_; clear hK K
  refine W.sr ?_
  simp (disch := omega) [gw, xG]
  refine aA f1 ?_
  simp (disch := omega) [gw]
  refine aA f3 ?_
  simp (disch := omega) [gw]
  refine W.lx [1, 4, 5, 6, 8, 9, 11] ?_; simp
  refine W.cA (fun K hK => ?_)
  simp (disch := omega) [gw, xG]
  refine aA f2 ?_
  simp (disch := omega) [gw]
  refine aA f4 ?_
  simp (disch := omega) [gw]
  refine aA f5 ?_
  simp (disch := omega) [gw]
  refine W.lw [1, 4, 5, 6, 8, 9] hK ?_; clear hK K; simp
  refine W.cA (fun K hK => ?_); simp (disch := omega) [gw]
  refine hK _ ⟨i, _, aC _ [1, 4, 5, 6, 8, 9], by omega, q2, r2, _, _, rfl, by simp [xG], by omega, wH, b1, b2, cr2⟩
 ·have hj0 : j = 0 := by simp at h; omega
  subst hj0
  simp only [ps] at wH
  rw [← wH]
  refine W.exit ?_; simp only [pX, if_true, if_false, reduceIte, Nat.reduceEqDiff]
  refine W.sr ?_; simp (disch := omega) [gw]; refine W.lx [4, 5, 6, 7] ?_; simp
  refine W.ret ?_
  simp [go]
def iT (x : List Int) : List Int := aM (x.map (oQ (bI x)))
def JM (a b : List Int) : List Int := if iD a b % 2 = 1 ∧ lead b < 0 then iT (fG (wC a b).2) else iT (wC a b).2
theorem gB (x : List Int) : ∀ c ∈ x, ((bI x : Nat) : Int) ∣ c := by
 have key : ∀ (l : List Int) (g : Nat), (∀ c ∈ l, ((l.foldl (fun g c => Nat.gcd g c.natAbs) g : Nat) : Int) ∣ c) ∧ l.foldl (fun g c => Nat.gcd g c.natAbs) g ∣ g := by
  intro l
  induction l with
  | nil => intro g; exact ⟨fun c hc => (by cases hc), Nat.dvd_refl _⟩
  | cons c l ih =>
   intro g
   obtain ⟨h1, h2⟩ := ih (Nat.gcd g c.natAbs)
   simp only [List.foldl_cons]
   refine ⟨fun d hd => ?_, Nat.dvd_trans h2 (Nat.gcd_dvd_left _ _)⟩
   rcases List.mem_cons.1 hd with rfl | hd
   ·exact Int.ofNat_dvd_left.2 (Nat.dvd_trans h2 (Nat.gcd_dvd_right _ _))
   ·exact h1 d hd
 exact (key x 0).1
theorem JN {x : List Int} {c : Int} (hc : c ∈ x) (h : c ≠ 0) : bI x ≠ 0 := by
 intro h0
 have := gB x c hc
 rw [h0] at this
 obtain ⟨k, hk⟩ := this
 simp at hk
 exact h hk
theorem bU {x : List Int} (hc : Cn x) (h : x ≠ []) : bI x ≠ 0 := by
 have hl : 0 < x.length := List.length_pos_iff.2 h
 exact JN (c := lead x) (bL (by omega)) (cD hc hl)
theorem QJ {x : List Int} {s : Nat} (hx : ∀ c ∈ x, sz LL c ≤ s) (hc : Cn x) (h : x ≠ []) : sz LL (bI x : Int) ≤ s := by
 have hl : 0 < x.length := List.length_pos_iff.2 h
 have hm : lead x ∈ x := bL (by omega)
 refine Nat.le_trans (cC eX ?_) (hx _ hm)
 have := Int.le_of_dvd (a := (bI x : Int)) (b := ((lead x).natAbs : Int)) (by have := cD hc hl; omega) (Int.dvd_natAbs.2 (gB x _ hm))
 omega
theorem tI (x : List Int) (hx : PD x) : aK env.P 222 [.sl [[Po x]]] (I (bI x)) := by
 have hl := hx.len
 have := JL [x.map oL] 1099511627773 (by decide) (fun p hp c hc => by
  simp only [List.mem_singleton] at hp
  subst hp
  simp only [List.mem_map] at hc
  obtain ⟨v, hv, rfl⟩ := hc
  have h1 := hx.sz v hv
  exact ⟨eC eX _, by unfold sz at h1; show (aQ LL v.natAbs).length ≤ _; omega⟩) (by simp) (by simp; omega)
 have e : ([x.map oL].flatten.map gv) = x := by simp only [List.flatten_cons, List.flatten_nil, List.append_nil, bP]
 rw [e] at this
 have e2 : aJ pe [x.map oL] = .sl [[Po x]] := by rw [fY]; rfl
 rw [e2] at this
 exact this
theorem JO (a b : RP) {s s' N : Nat} (ha : qF a) (hb : qF b) (sa : Bd LL s N (a.map gv)) (sb : Bd LL s' N (b.map gv)) (hB : s + N * (s' + N + 1) + s' + N + N + 10 < 1099511627774) :
  aK env.P 158 [Pg a, Pg b] (if kQ b = [] then .eA [Po [], .int .i64 2] else .eA [Po (JM (kQ a) (kQ b)), .int .i64 0]) := by
 have hP := NI a b ha hb sa sb hB
 have hL := I2 b hb
 have hA : Bd LL s N (kQ a) := sa.cut
 have QI : Bd LL s' N (kQ b) := sb.cut
 have ca : Cn (kQ a) := Cn.cut _
 refine aB (E := env) (fun _ => 0) [(0, Pg a), (1, Pg b)] Tryz.func158 rfl (by kernel_rfl) (by kernel_rfl) (show 2 ≤ 39 by decide) (by simp) ?_
 generalize kQ a = x at *
 generalize kQ b = y at *
 refine W.sr ?_; simp (disch := omega) [gw]; refine W.lx [0, 1] ?_; simp
 by_cases hy : y = []
 ·rw [if_pos hy] at hP ⊢
  refine W.sr ?_
  simp (disch := omega) [gw]
  refine aA hP ?_
  simp (disch := omega) [gw]
  refine W.lx [1, 7, 8, 9] ?_; simp
  refine W.seq ?_
  refine W.sr ?_; simp (disch := omega) [gw]; refine W.lx [1, 7, 8, 9, 19] ?_; simp
  refine W.cond ⟨_, rfl, fun h => ?_, fun h => ?_⟩
  ·refine W.sr ?_; simp (disch := omega) [gw]; refine W.lx [4, 5] ?_; simp
   refine W.ret ?_
   simp [go]
   rfl
  ·cases h
 rw [if_neg hy] at hP ⊢
 have M5 : 0 < y.length := List.length_pos_iff.2 hy
 have hkN : iD x y ≤ N := by unfold iD; have := hA.len; omega
 obtain ⟨_, vS⟩ := YI eX QI (iD x y) s [] x hkN ⟨by simp, fun c hc => by cases hc⟩ (hA.mono (by omega) (by omega))
 obtain ⟨_, cr⟩ := zC (b := y) ca
 rw [show (ps y (lead y) (iD x y) [] x) = wC x y from rfl] at vS
 have hmul := Nat.mul_le_mul_right (s' + N + 1) hkN
 have Y3 := DG (PB.of vS (by omega) (by omega))
 refine W.sr ?_
 simp (disch := omega) [gw]
 refine aA hP ?_
 simp (disch := omega) [gw]
 refine W.lx [1, 7, 8, 9] ?_; simp
 refine W.seq ?_
 refine W.sr ?_; simp (disch := omega) [gw]; refine W.lx [1, 7, 8, 9, 19] ?_; simp
 refine W.cond ⟨_, rfl, fun h => ?_, fun h => ?_⟩
 ·cases h
 refine W.skip ?_
 obtain ⟨r2, cM⟩ : ∃ r2, r2 = if iD x y % 2 = 1 ∧ lead y < 0 then fG (wC x y).2 else (wC x y).2 := ⟨_, rfl⟩
 have aoO : JM x y = iT r2 := by rw [cM, JM]; split <;> rfl
 have hbr : PD r2 := by
  rw [cM]; split
  ·exact PD.of vS.fG (by omega) (by omega)
  ·exact PD.of vS (by omega) (by omega)
 have hcr : Cn r2 := by
  rw [cM]; split
  ·exact Cn.fG _
  ·exact cr
 rw [aoO]
 refine W.fO (fun σ => ∃ (rows : Pm.Rows) (clk : Nat), σ = ⟨fa [(7, Po r2)], rows, clk⟩) ?_ ?_
 ·
  by_cases hk : iD x y % 2 = 1
  ·refine W.fU (fun σ => ∃ (rows : Pm.Rows) (clk : Nat), σ = ⟨fa [(7, Po (wC x y).2), (28, .bool (decide (lead y < 0)))], rows, clk⟩) (fun K hK => ?_) ?_
   ·have vK : (iD x y : Int) % 2 = 1 := by omega
    simp (disch := omega) [gw, vK]
    refine aA hL ?_
    simp (disch := omega) [gw]
    exact hK _ _ (aC _ [7, 28]) ⟨_, _, rfl⟩
   rintro _ ⟨rows, clk, rfl⟩
   refine W.X7 (lead y < 0) rfl (fun h => ?_) (fun h => ?_)
   ·rw [if_pos ⟨hk, h⟩] at cM
    subst cM
    refine W.cA (fun K hK => ?_)
    simp (disch := omega) [gw]
    refine aA Y3 ?_
    simp (disch := omega) [gw]
    exact hK _ ⟨_, aC _ [7], _, _, rfl⟩
   ·rw [if_neg (fun h2 => h h2.2)] at cM
    subst cM
    refine W.skip ?_
    exact ⟨_, aC _ [7], _, _, rfl⟩
  ·rw [if_neg (fun h2 => hk h2.1)] at cM
   subst cM
   refine W.fU (fun σ => ∃ (rows : Pm.Rows) (clk : Nat), σ = ⟨fa [(7, Po (wC x y).2), (28, .bool false)], rows, clk⟩) (fun K hK => ?_) ?_
   ·have vK : ((iD x y : Int) % 2 == 1) = false := by simp; omega
    simp (disch := omega) [gw, vK]
    exact hK _ _ (aC _ [7, 28]) ⟨_, _, rfl⟩
   rintro _ ⟨rows, clk, rfl⟩
   refine W.cond ⟨_, rfl, fun h => ?_, fun h => ?_⟩
   ·cases h
   ·refine W.skip ?_
    exact ⟨_, aC _ [7], _, _, rfl⟩
 rintro _ ⟨rows, clk, rfl⟩
 clear cM aoO
 refine W.seq ?_
 refine W.sr ?_; simp (disch := omega) [gw]; refine W.lx [7, 33] ?_; simp
 refine W.cond ⟨_, rfl, fun h => ?_, fun h => ?_⟩
 ·have h : r2 = [] := by simp at h; exact h
  subst h
  refine W.sr ?_; simp (disch := omega) [gw]; refine W.lx [4, 5] ?_; simp
  refine W.ret ?_
  simp [go]
  rfl
 ·have h : r2 ≠ [] := by simp at h; exact h
  have hC := tI r2 hbr
  have hgp := bU hcr h
  have hO := JJ r2 (bI r2) hbr (Nat.lt_of_le_of_lt (QJ (s := 1099511627773) (fun c hc => by have := hbr.sz c hc; omega) hcr h) (by decide)) (by omega)
  rw [show aM (r2.map (oQ (bI r2))) = iT r2 from rfl] at hO
  generalize (bI r2 : Int) = g at *
  generalize iT r2 = pr at *
  refine W.skip ?_
  refine W.sr ?_
  simp (disch := omega) [gw]
  refine aA hC ?_
  simp (disch := omega) [gw]
  refine aA hO ?_
  simp (disch := omega) [gw]
  refine W.lx [4, 5] ?_; simp
  refine W.ret ?_
  simp [go]
theorem adQ (x : List Int) : kQ (x.map oL) = aM x := by simp only [kQ, bP]
theorem jR {x : List Int} (hx : Cn x) {m : Int} (hm : m ≠ 0) : Cn (x.map (· * m)) := by
 rcases Nat.eq_zero_or_pos x.length with h | h
 ·have : x = [] := List.eq_nil_of_length_eq_zero h
  subst this; rfl
 ·have e := rR h
  have : x.map (· * m) = (x.take (x.length - 1)).map (· * m) ++ [lead x * m] := by
   conv => lhs; rw [e]
   simp
  rw [this]
  exact i4 (Int.mul_ne_zero (cD hx h) hm) _
theorem qH {x : List Int} (hx : Cn x) {m : Int} (hm : m ≠ 0) : aV x m = x.map (· * m) := jR hx hm
theorem NK {x : List Int} (hx : Cn x) : aV x 1 = x := Cn.ext (Cn.aV _ _) hx fun t => by rw [bT]; omega
theorem NL (x : List Int) : fG x = aV x (-1) := Cn.ext (Cn.fG _) (Cn.aV _ _) fun t => by rw [y9, bT]; omega
theorem jS (m : Int) (x : List Int) : bI (x.map (· * m)) = bI x * m.natAbs := by
 have key : ∀ (l : List Int) (g : Nat), (l.map (· * m)).foldl (fun g c => Nat.gcd g c.natAbs) (g * m.natAbs) = l.foldl (fun g c => Nat.gcd g c.natAbs) g * m.natAbs := by
  intro l
  induction l with
  | nil => intro g; rfl
  | cons c l ih =>
   intro g
   simp only [List.map_cons, List.foldl_cons]
   rw [Int.natAbs_mul, Nat.gcd_mul_right, ih]
 have := key x 0
 rw [Nat.zero_mul] at this
 exact this
theorem UC {m : Int} (hm : 0 < m) (g v : Int) : oQ (g * m) (v * m) = oQ g v := by
 unfold oQ
 rw [Int.mul_comm v, Int.mul_comm g, Int.mul_emod_mul_of_pos _ _ hm, Int.mul_ediv_mul_of_pos _ _ hm]
 have : m * (v % g) = 0 ↔ v % g = 0 := by
  constructor
  ·intro h
   rcases Int.mul_eq_zero.1 h with h | h
   ·omega
   ·exact h
  ·intro h; rw [h]; simp
 simp only [this]
theorem NM {m : Int} (hm : 0 < m) (x : List Int) : iT (x.map (· * m)) = iT x := by
 unfold iT
 rw [jS, List.map_map]
 congr 1
 refine List.map_congr_left fun v _ => ?_
 simp only [Function.comp_apply]
 have : ((bI x * m.natAbs : Nat) : Int) = (bI x : Int) * m := by rw [Int.natCast_mul]; congr 1; omega
 rw [this, UC hm]
theorem wI {x : List Int} (hx : Cn x) {m : Int} (hm : 0 < m) : iT (aV x m) = iT x := by rw [qH hx (by omega), NM hm]
def sg (c : Int) (k : Nat) : Int := if k % 2 = 1 ∧ c < 0 then -1 else 1
theorem ZO (c : Int) : ∀ k : Nat, c ^ k = sg c k * (c.natAbs : Int) ^ k
 | 0 => by simp [sg]
 | k + 1 => by
  have ih := ZO c k
  have hc : c = (if c < 0 then -1 else 1) * (c.natAbs : Int) := by split <;> omega
  have hs : sg c (k + 1) = sg c k * (if c < 0 then -1 else 1) := by
   unfold sg
   by_cases h : c < 0
   ·rcases Nat.mod_two_eq_zero_or_one k with h2 | h2
    ·rw [if_pos ⟨by omega, h⟩, if_neg (by omega), if_pos h]; rfl
    ·rw [if_neg (by omega), if_pos ⟨h2, h⟩, if_pos h]; rfl
   ·rw [if_neg (fun h2 => h h2.2), if_neg (fun h2 => h h2.2), if_neg h]; rfl
  rw [Int.pow_succ, Int.pow_succ, ih, hs]
  conv => lhs; rw [hc]
  generalize (if c < 0 then (-1 : Int) else 1) = e at *
  have e3 : ((e * (c.natAbs : Int)).natAbs : Int) = (c.natAbs : Int) := by rw [← hc]
  rw [e3]
  grind
theorem ZP (c : Int) (k : Nat) : sg c k * sg c k = 1 := by unfold sg; split <;> rfl
theorem ZQ {a b : List Int} (ca : Cn a) : JM a b = iT (aV (wC a b).2 (sg (lead b) (iD a b))) := by
 have cr := (zC (b := b) ca).2
 unfold JM sg
 split
 ·rw [NL]
 ·rw [NK cr]
theorem j5 (x : List Int) : (iT x).length ≤ x.length := Nat.le_trans (bO _) (by simp)
theorem JP (x : List Int) : (fG x).length ≤ x.length := Nat.le_trans (bO _) (by simp)
theorem adR {a b : List Int} (hb : 0 < b.length) : (JM a b).length < b.length := by
 have h1 := E7 (a := a) hb
 unfold JM
 split
 ·have h2 := j5 (fG (wC a b).2)
  have h3 := JP (wC a b).2
  omega
 ·have h2 := j5 (wC a b).2
  omega
theorem ajf (a b : List Int) : Cn (JM a b) := by unfold JM; split <;> exact Cn.cut _
def ZS (b : List Int) : Nat → List Int → List Int → Option (List Int × List Int)
 | 0, q, a => some (q, a)
 | i + 1, q, a => if a.length < b.length + i then ZS b i q a else if lead a % lead b = 0 then ZS b i (q.set i (lead a / lead b)) (dX a (bJ (oK i (lead a / lead b)) b)) else none
def exF : Option (List Int × List Int) → Option (List Int)
 | some (q, []) => some (aM q)
 | _ => none
def exact (a b : List Int) : Option (List Int) := exF (ZS b (iD a b) (List.replicate (iD a b) 0) a)
def exR (o : Option (List Int)) : PV :=
 match o with
 | some q => .eA [Po q, .int .i64 0]
 | none => .eA [Po [], .int .i64 3]
theorem Bd.set {B s n : Nat} {x : List Int} (h : Bd B s n x) {i : Nat} {v : Int} (hv : Pm.sz B v ≤ s) : Bd B s n (x.set i v) := ⟨by simpa using h.len, fun c hc => by
 rcases List.mem_or_eq_of_mem_set hc with h1 | h1
 ·exact h.sz c h1
 ·rw [h1]; exact hv⟩
theorem UD (a b : RP) {s s' N : Nat} (ha : qF a) (hb : qF b) (sa : Bd LL s N (a.map gv)) (sb : Bd LL s' N (b.map gv)) (hB : s + N * (s' + N + 1) + s' + N + N + 10 < 1099511627774) :
  aK env.P 225 [Pg a, Pg b] (if kQ b = [] then .eA [Po [], .int .i64 2] else exR (exact (kQ a) (kQ b))) := by
 have hA : Bd LL s N (kQ a) := sa.cut
 have QI : Bd LL s' N (kQ b) := sb.cut
 have ca : Cn (kQ a) := Cn.cut _
 have cb : Cn (kQ b) := Cn.cut _
 have na := gH a ha
 have nb := gH b hb
 rw [show aM (a.map gv) = kQ a from rfl] at na
 rw [show aM (b.map gv) = kQ b from rfl] at nb
 refine aB (E := env) (fun _ => 0) [(0, Pg a), (1, Pg b)] Tryz.func225 rfl (by kernel_rfl) (by kernel_rfl) (show 2 ≤ 71 by decide) (by simp) ?_
 generalize kQ a = x at *
 generalize kQ b = y at *
 refine W.sr ?_; simp (disch := omega) [gw]; refine W.lx [0, 1] ?_; simp
 refine W.sr ?_
 simp (disch := omega) [gw]
 refine aA na ?_
 simp (disch := omega) [gw]
 refine aA nb ?_
 simp (disch := omega) [gw]
 refine W.lx [0, 1] ?_; simp
 refine W.seq ?_
 refine W.sr ?_; simp (disch := omega) [gw]; refine W.lx [0, 1, 17] ?_; simp
 refine W.cond ⟨_, rfl, fun h => ?_, fun h => ?_⟩
 ·have h : y = [] := by simp at h; exact h
  rw [if_pos h]
  refine W.sr ?_; simp (disch := omega) [gw]; refine W.lx [4, 5] ?_; simp
  refine W.ret ?_
  simp [go]
  rfl
 have hy : y ≠ [] := by simp at h; exact h
 clear h
 rw [if_neg hy]
 have M5 : 0 < y.length := List.length_pos_iff.2 hy
 have hNx := hA.len
 have hNy := QI.len
 have hsy := eQ QI
 have hly := cD cb M5
 have hL := jQ (PB.of QI (by omega) (by omega)) cb
 have hDy := jB y (by omega)
 have hkN : iD x y ≤ N := by unfold iD; omega
 generalize hdd : s' + N + 1 = d at *
 have ZM : ∀ j, j ≤ N → (N - j) * d ≤ N * d := fun j _ => Nat.mul_le_mul_right _ (by omega)
 have hkk : (if (0 : Int) < (x.length : Int) - (y.length : Int) + 1 then (x.length : Int) - (y.length : Int) + 1 else 0) = (iD x y : Int) := by unfold iD; split <;> omega
 refine W.skip ?_
 refine W.sr ?_
 simp (disch := omega) [gw, hkk]
 refine W.lx [0, 1, 6] ?_; simp
 refine W.row (id := 25) (emap ie (List.replicate (iD x y) 0)) (by simp; exact ⟨rfl, rfl, rfl⟩) (pH _) ?_
 refine W.seq ?_
 refine W.sr ?_; simp (disch := omega) [gw]; refine W.lx [0, 1, 6, 7] ?_; simp
 refine W.block ?_
 obtain ⟨R0, HM⟩ : ∃ R0, R0 = ZS y (iD x y) (List.replicate (iD x y) 0) x := ⟨_, rfl⟩
 have hex : exact x y = exF R0 := by rw [HM]; rfl
 rw [hex]
 clear hex
 generalize wE : iD x y = k0 at *
 refine W.bB (fun j σ => ∃ (v6 : Nat) (z r : List Int) (rows : Pm.Rows) (clk : Nat), σ = ⟨fa [(0, Po r), (1, Po y), (6, .own 25 v6 0 k0), (7, .int .i64 ((j : Int) - 1))], rows, clk⟩ ∧
  rows 25 = some ⟨v6, 40, 2, emap ie z⟩ ∧ z.length = k0 ∧ j ≤ k0 ∧ ZS y j z r = R0 ∧ Bd LL (s + (N - j) * d) (N + N) z ∧ Bd LL (s + (N - j) * d) (N + N) r ∧ Cn r) k0 ?_ ?_
 ·exact ⟨_, .refl, _, List.replicate k0 0, x, _, _, rfl, by simp, by simp, by omega, HM.symm, ⟨by simp; omega, fun c hc => by rw [(List.mem_replicate.1 hc).2, i7]; omega⟩, hA.mono (by omega) (by omega), ca⟩
 rintro j _ ⟨v6, z, r, rows, clk, rfl, ZT, hz, hj, wH, bz, br, cr⟩
 refine W.seq ?_
 refine W.sr ?_; simp (disch := omega) [gw]; refine W.lx [0, 1, 6, 7, 30] ?_; simp
 refine W.cond ⟨_, rfl, fun h => ?_, fun h => ?_⟩
 ·have hj0 : 0 < j := by simp at h; omega
  obtain ⟨i, rfl⟩ : ∃ i, j = i + 1 := ⟨j - 1, by omega⟩
  clear h
  have ei : ((i + 1 : Nat) : Int) - 1 = i := by omega
  rw [ei]
  have hN1 := ZM (i + 1) (by omega)
  have NJ := ZM i (by omega)
  have hT : s + (N - i) * d = s + (N - (i + 1)) * d + s' + N + 1 := by
   rw [show N - i = (N - (i + 1)) + 1 by omega, Nat.add_mul, Nat.one_mul]; omega
  have hDr := jB r (by have := br.len; omega)
  have hLr := jQ (PB.of br (by omega) (by omega)) cr
  have hlr := eQ br
  rw [ZS] at wH
  refine W.skip ?_
  refine W.fT (fun σ => ∃ (z r : List Int) (rows : Pm.Rows) (clk : Nat), σ = ⟨fa [(0, Po r), (1, Po y), (6, .own 25 v6 0 k0), (7, .int .i64 i)], rows, clk⟩ ∧
   rows 25 = some ⟨v6, 40, 2, emap ie z⟩ ∧ z.length = k0 ∧ ZS y i z r = R0 ∧ Bd LL (s + (N - i) * d) (N + N) z ∧ Bd LL (s + (N - i) * d) (N + N) r ∧ Cn r) ?_ ?_
  ·
   refine W.seq ?_
   refine W.sr ?_
   simp (disch := omega) [gw]
   refine aA hDr ?_
   simp (disch := omega) [gw]
   refine aA hDy ?_
   simp (disch := omega) [gw]
   refine W.lx [0, 1, 6, 7, 39] ?_; simp
   by_cases hlen : r.length < y.length + i
   ·rw [if_pos hlen] at wH
    refine W.cond ⟨_, rfl, fun h => ?_, fun h => ?_⟩
    ·refine W.exit ?_; simp only [pX, if_true, if_false, reduceIte, Nat.reduceEqDiff]
     exact ⟨_, aC _ [0, 1, 6, 7], z, r, _, _, rfl, ZT, hz, wH, bz.mono (by omega) (by omega), br.mono (by omega) (by omega), cr⟩
    ·exfalso; simp at h; omega
   rw [if_neg hlen] at wH
   refine W.cond ⟨_, rfl, fun h => ?_, fun h => ?_⟩
   ·exfalso; simp at h; omega
   clear h
   have hE := FG (v := lead r) (c := lead y) (by omega) (by omega) hly
   refine W.skip ?_
   by_cases Y2 : lead r % lead y = 0
   ·rw [if_pos Y2] at hE wH
    have hts : sz LL (lead r / lead y) ≤ s + (N - (i + 1)) * d := Nat.le_trans (cC eX (Int.natAbs_ediv_le_natAbs _ _)) hlr
    have bs := Bd.oK hts i
    have bm := bs.bJ eX QI
    have b2 : Bd LL (s + (N - i) * d) (N + N) (dX r (bJ (oK i (lead r / lead y)) y)) := (Bd.dX eX (br.mono (s' := s + (N - (i + 1)) * d + s' + N) (n' := N + N) (by omega) (by omega)) (bm.mono (by omega) (by omega))).mono (by omega) (by omega)
    have f4 := DH bs QI (by omega)
    have f5 := DF (PB.of br (by omega) (by omega)) (PB.of bm (by omega) (by omega))
    have cr2 : Cn (dX r (bJ (oK i (lead r / lead y)) y)) := Cn.dX _ _
    have bz2 := Bd.set (i := i) (bz.mono (s' := s + (N - i) * d) (n' := N + N) (by omega) (by omega)) (Nat.le_trans hts (by omega))
    generalize cM : dX r (bJ (oK i (lead r / lead y)) y) = r2 at *
    generalize bJ (oK i (lead r / lead y)) y = pm at *
    generalize lead r / lead y = tt at *
    have ZN := pL i tt
    have aje : (oK i tt).length = i + 1 := by simp [oK]
    have lI := bH aje
    generalize lead r = lr at *
    generalize lead y = ly at *
    refine W.sr ?_
    simp (disch := omega) [gw]
    refine aA hLr ?_
    simp (disch := omega) [gw]
    refine aA hL ?_
    simp (disch := omega) [gw]
    refine aA hE ?_
    simp (disch := omega) [gw]
    refine W.lx [0, 1, 6, 7, 8, 9] ?_; simp
    refine W.seq ?_
    refine W.sr ?_; simp (disch := omega) [gw]; refine W.lx [0, 1, 6, 7, 8, 49] ?_; simp
    refine W.cond ⟨_, rfl, fun h => ?_, fun h => ?_⟩
    ·cases h
    refine W.skip ?_
    refine W.sr ?_
    simp (disch := omega) [gw, ZT, hz]
    refine W.lx [0, 1, 6, 7, 8] ?_; simp
    have e9 : ((i : Int) + 1).toNat = i + 1 := by omega
    refine W.sr ?_; simp (disch := omega) [gw, e9]; refine W.lx [0, 1, 6, 7, 8, 10] ?_; simp
    refine W.row (id := 56) (emap ie (List.replicate (i + 1) 0)) (by simp; exact ⟨rfl, rfl, rfl⟩) (pH _) ?_
    refine W.sr ?_
    simp (disch := omega) [gw, ZN]
    refine W.lx [0, 1, 6, 7, 10] ?_; simp
    refine W.freeze 56 (by simp) (fun K hK => ?_)
    simp [lI]
    refine hK _ ?_; clear hK K
    refine W.cA (fun K hK => ?_)
    simp (disch := omega) [gw]
    refine aA f4 ?_
    simp (disch := omega) [gw]
    refine aA f5 ?_
    simp (disch := omega) [gw]
    exact hK _ ⟨_, aC _ [0, 1, 6, 7], z.set i tt, r2, _, _, rfl, by simp, by simp [hz], wH, bz2, b2, cr2⟩
   ·rw [if_neg Y2] at hE wH
    subst wH
    refine W.sr ?_
    simp (disch := omega) [gw]
    refine aA hLr ?_
    simp (disch := omega) [gw]
    refine aA hL ?_
    simp (disch := omega) [gw]
    refine aA hE ?_
    simp (disch := omega) [gw]
    refine W.lx [0, 1, 6, 7, 8, 9] ?_; simp
    refine W.seq ?_
    refine W.sr ?_; simp (disch := omega) [gw]; refine W.lx [0, 1, 6, 7, 8, 49] ?_; simp
    refine W.cond ⟨_, rfl, fun h => ?_, fun h => ?_⟩
    ·refine W.sr ?_; simp (disch := omega) [gw]; refine W.lx [4, 5] ?_; simp
     refine W.ret ?_
     simp [go, exR, exF]
     rfl
    ·cases h
  rintro _ ⟨z, r, rows, clk, rfl, ZT, hz, wH, bz, br, cr⟩
  refine W.cA (fun K hK => ?_); simp (disch := omega) [gw]
  refine hK _ ⟨i, _, aC _ [0, 1, 6, 7], by omega, v6, z, r, _, _, rfl, by simp [ZT], hz, by omega, wH, bz, br, cr⟩
 ·have hj0 : j = 0 := by simp at h; omega
  subst hj0
  simp only [ZS] at wH
  rw [← wH]
  have hN0 := ZM 0 (by omega)
  have hzn := fZ (PB.of bz (by omega) (by omega))
  have hzz := bH hz
  refine W.exit ?_; simp only [pX, if_true, if_false, reduceIte, Nat.reduceEqDiff]
  refine W.seq ?_
  refine W.sr ?_; simp (disch := omega) [gw]; refine W.lx [6, 68] ?_; simp
  cases r with
  | nil =>
   refine W.cond ⟨_, rfl, fun h => ?_, fun h => ?_⟩
   ·exfalso; simp at h
   refine W.skip ?_
   refine W.sr ?_
   simp (disch := omega) [gw, ZT, hzz]
   refine aA hzn ?_
   simp (disch := omega) [gw]
   refine W.lx [4, 5] ?_; simp
   refine W.ret ?_
   simp [go, exR, exF]
  | cons c r =>
   refine W.cond ⟨_, rfl, fun h => ?_, fun h => ?_⟩
   ·refine W.sr ?_; simp (disch := omega) [gw]; refine W.lx [4, 5] ?_; simp
    refine W.ret ?_
    simp [go, exR, exF]
    rfl
   ·exfalso; simp at h
theorem z6 {d : Nat} {x : List Int} (h : ∀ c ∈ x, (d : Int) ∣ c) : d ∣ bI x := by
 have key : ∀ (l : List Int) (g : Nat), d ∣ g → (∀ c ∈ l, (d : Int) ∣ c) → d ∣ l.foldl (fun g c => Nat.gcd g c.natAbs) g := by
  intro l
  induction l with
  | nil => intro g hg _; exact hg
  | cons c l ih =>
   intro g hg hl
   rw [List.foldl_cons]
   exact ih _ (Nat.dvd_gcd hg (Int.ofNat_dvd_left.1 (hl c (by simp)))) fun v hv => hl v (by simp [hv])
 exact key x 0 (Nat.dvd_zero d) h
theorem xQ {x : List Int} {g : Int} (h : ∀ c ∈ x, g ∣ c) : (x.map (oQ g)).map (· * g) = x := by
 rw [List.map_map]
 refine (List.map_congr_left fun v hv => ?_).trans (List.map_id _)
 have h1 : v % g = 0 := Int.emod_eq_zero_of_dvd (h v hv)
 simp only [Function.comp_apply, oQ, id_eq]
 rw [if_pos h1]
 exact Int.ediv_mul_cancel (h v hv)
theorem uY {x y : List Int} {g : Int} (hg : g ≠ 0) (h : y.map (· * g) = x) (e : bI x = g.natAbs) : bI y = 1 := by
 have := jS g y
 rw [h, e] at this
 exact Nat.eq_of_mul_eq_mul_right (show 0 < g.natAbs by omega) (by omega)
theorem dC (t : Int) (g : Int) (x : List Int) : V t (x.map (· * g)) = V t x * g := by
 have := fJ (t := t) g id x
 simp only [id_eq, List.map_id_fun] at this
 exact this
theorem ZU {x y : List Int} (cx : Cn x) (cy : Cn y) (hx : x ≠ []) (hy : y ≠ []) : bI (bJ x y) = bI x * bI y := by
 have gx := bU cx hx
 have gy := bU cy hy
 have hp : bI (bJ x y) ≠ 0 := bU (Cn.bJ _ _) fun h => by
  have := iP cx cy (List.length_pos_iff.2 hx) (List.length_pos_iff.2 hy)
  rw [h] at this
  have h1 := List.length_pos_iff.2 hx
  have h2 := List.length_pos_iff.2 hy
  simp only [List.length_nil] at this
  omega
 obtain ⟨x', CG⟩ : ∃ x' : List Int, x'.map (· * (bI x : Int)) = x := ⟨_, xQ (gB x)⟩
 obtain ⟨y', BM⟩ : ∃ y' : List Int, y'.map (· * (bI y : Int)) = y := ⟨_, xQ (gB y)⟩
 have px := uY (by omega) CG (by omega)
 have py := uY (by omega) BM (by omega)
 have e : bJ x y = (bJ x' y').map (· * ((bI x : Int) * bI y)) := by
  rw [← qH (Cn.bJ _ _) (Int.mul_ne_zero (by omega) (by omega))]
  refine Cn.ext (Cn.bJ _ _) (Cn.aV _ _) fun t => ?_
  have h1 := dC t (bI x) x'
  have h2 := dC t (bI y) y'
  rw [CG] at h1
  rw [BM] at h2
  rw [cP, bT, cP, h1, h2]
  grind
 rw [e, jS] at hp
 rw [e, jS, Int.natAbs_mul]
 have hd : 0 < bI (bJ x' y') := Nat.pos_of_mul_pos_right (Nat.pos_of_ne_zero hp)
 have hD := P8 _ (bI (bJ x' y')) x' y' (Nat.le_refl _) hd (Dv.of (gB _)) (fun d _ hy => Nat.dvd_one.1 (py ▸ z6 hy.mem))
 have h1 : bI (bJ x' y') = 1 := Nat.dvd_one.1 (px ▸ z6 hD.mem)
 rw [h1, Nat.one_mul]
 simp
def jE (x : List Int) : Int := if lead x < 0 then -(bI x : Int) else bI x
def pM (x : List Int) : List Int := aM (x.map (oQ (jE x)))
theorem lZ (x : List Int) : (jE x).natAbs = bI x := by unfold jE; split <;> omega
theorem FH (x : List Int) : ∀ c ∈ x, jE x ∣ c := fun c hc => by
 have := gB x c hc
 unfold jE; split
 ·exact Int.neg_dvd.2 this
 ·exact this
theorem FI {x : List Int} (cx : Cn x) (hx : x ≠ []) : (pM x).map (· * jE x) = x := by
 have gx := bU cx hx
 have h0 := lZ x
 rw [← qH (show Cn (pM x) from Cn.cut _) (show jE x ≠ 0 by omega)]
 refine Cn.ext (Cn.aV _ _) cx fun t => ?_
 rw [bT, pM, cB, ← dC, xQ (FH x)]
theorem UE {x : List Int} (cx : Cn x) (hx : x ≠ []) : aV (pM x) (jE x) = x := by
 have gx := bU cx hx
 have h0 := lZ x
 rw [qH (show Cn (pM x) from Cn.cut _) (show jE x ≠ 0 by omega)]
 exact FI cx hx
theorem adS {x : List Int} (cx : Cn x) (hx : x ≠ []) : bI (pM x) = 1 := by
 have gx := bU cx hx
 have h0 := lZ x
 exact uY (by omega) (FI cx hx) h0.symm
theorem ZV {x : List Int} (cx : Cn x) (hx : x ≠ []) : 0 < lead (pM x) := by
 have gx := bU cx hx
 have h := FI cx hx
 have hl : (pM x).length = x.length := by rw [← congrArg List.length h]; simp
 have mR := List.length_pos_iff.2 hx
 have h1 : lead x = lead (pM x) * jE x := by
  rw [lead, lead, hl, ← iE, h]
 have oO := cD (x := pM x) (Cn.cut _) (by omega)
 have hg : (0 : Int) < bI x := by omega
 unfold jE at h1
 rcases Int.lt_trichotomy (lead (pM x)) 0 with h2 | h2 | h2
 ·exfalso
  split at h1
  ·rename_i h3
   have := Int.mul_pos (show (0 : Int) < -lead (pM x) by omega) hg
   rw [Int.mul_neg, ← Int.neg_mul] at h1
   omega
  ·rename_i h3
   have := Int.mul_pos (show (0 : Int) < -lead (pM x) by omega) hg
   rw [Int.neg_mul] at this
   omega
 ·exact absurd h2 oO
 ·exact h2
theorem mM (a : RP) {s n : Nat} (ha : qF a) (sa : Bd LL s n (a.map gv)) (hs : s < 1099511627774) (hn : n < 1099511627774) :
  aK env.P 157 [Pg a] (.eA [I (jE (kQ a)), Po (pM (kQ a))]) := by
 have hA : Bd LL s n (kQ a) := sa.cut
 have ca : Cn (kQ a) := Cn.cut _
 have na := gH a ha
 rw [show aM (a.map gv) = kQ a from rfl] at na
 refine aB (E := env) (fun _ => 0) [(0, Pg a)] Tryz.func157 rfl (by kernel_rfl) (by kernel_rfl) (show 1 ≤ 23 by decide) (by simp) ?_
 generalize kQ a = x at *
 refine W.sr ?_; simp (disch := omega) [gw]; refine W.lx [0, 2] ?_; simp
 refine W.sr ?_
 simp (disch := omega) [gw]
 refine aA na ?_
 simp (disch := omega) [gw]
 refine W.lx [0, 2] ?_; simp
 refine W.seq ?_
 refine W.sr ?_; simp (disch := omega) [gw]; refine W.lx [0, 2, 9] ?_; simp
 refine W.cond ⟨_, rfl, fun h => ?_, fun h => ?_⟩
 ·have h : x = [] := by simp at h; exact h
  subst h
  rw [show jE ([] : List Int) = 0 by decide, show pM ([] : List Int) = [] from rfl]
  refine W.sr ?_; simp (disch := omega) [gw]; refine W.lx [2, 3] ?_; simp
  refine W.ret ?_
  simp [go]
  exact ⟨rfl, rfl⟩
 have hx : x ≠ [] := by simp at h; exact h
 clear h
 have mR := List.length_pos_iff.2 hx
 have gx := bU ca hx
 have KX := lZ x
 have hC := tI x (PD.of hA hs hn)
 have hL := jQ (PB.of hA (by omega) (by omega)) ca
 have hgs := QJ (s := s) hA.sz ca hx
 have GY : sz LL (jE x) ≤ s := by
  unfold jE; split
  ·rw [mK]; exact hgs
  ·exact hgs
 have hO := JJ x (jE x) (PD.of hA hs hn) (by omega) (by omega)
 rw [show aM (x.map (oQ (jE x))) = pM x from rfl] at hO
 have hN := af2 (x := (bI x : Int)) (by show sz LL _ < _; omega)
 refine W.skip ?_
 refine W.sr ?_
 simp (disch := omega) [gw]
 refine aA hC ?_
 simp (disch := omega) [gw]
 refine W.lx [0, 2, 4] ?_; simp
 refine W.fO (fun σ => ∃ (rows : Pm.Rows) (clk : Nat), σ = ⟨fa [(0, Po x), (2, .ptr 2 0 0 0), (4, .ptr 4 1 0 0)], rows, clk⟩ ∧ rows 2 = some ⟨0, 40, 2, [[.bool false, .nil]]⟩ ∧ rows 4 = some ⟨1, 40, 2, [ie (jE x)]⟩) ?_ ?_
 ·refine W.fU (fun σ => ∃ (rows : Pm.Rows) (clk : Nat), σ = ⟨fa [(0, Po x), (2, .ptr 2 0 0 0), (4, .ptr 4 1 0 0), (16, .bool (decide (lead x < 0)))], rows, clk⟩ ∧ rows 2 = some ⟨0, 40, 2, [[.bool false, .nil]]⟩ ∧ rows 4 = some ⟨1, 40, 2, [ie (bI x)]⟩) (fun K hK => ?_) ?_
  ·simp (disch := omega) [gw]
   refine aA hL ?_
   simp (disch := omega) [gw]
   refine hK _ _ (aC _ [0, 2, 4, 16]) ⟨_, _, rfl, ?_, ?_⟩ <;> simp [ie]
  rintro _ ⟨rows, clk, rfl, cM, jI⟩
  refine W.X7 (lead x < 0) rfl (fun h => ?_) (fun h => ?_)
  ·rw [jE, if_pos h]
   refine W.cA (fun K hK => ?_)
   simp (disch := omega) [gw, jI]
   refine aA hN ?_
   simp (disch := omega) [gw, jI]
   exact hK _ ⟨_, aC _ [0, 2, 4], _, _, rfl, by simp [cM], by simp⟩
  ·rw [jE, if_neg h]
   refine W.skip ?_
   exact ⟨_, aC _ [0, 2, 4], _, _, rfl, cM, jI⟩
 rintro _ ⟨rows, clk, rfl, cM, jI⟩
 generalize jE x = c at *
 generalize pM x = p at *
 refine W.sd ?_
 simp (disch := omega) [gw, jI]
 refine aA hO ?_
 simp (disch := omega) [gw, cM, jI]
 refine W.lx [2, 3] ?_; simp
 refine W.ret ?_
 simp [go]
abbrev qd (x : List Int) (D : Int) : List Rat := x.map fun v => cS v D
theorem dV {v D : Int} (h : D ≠ 0) : cS v D = (v : Rat) / (D : Rat) := by rw [cS, if_neg h, Rat.divInt_eq_div]
theorem fD {D : Int} (h : D ≠ 0) : (D : Rat) ≠ 0 := fun h2 => h (by exact_mod_cast h2)
theorem tJ {D : Int} (h : D ≠ 0) : cS 0 D = 0 := by rw [dV h]; simp [Rat.div_def]
theorem wJ {v D : Int} (h : D ≠ 0) : cS v D = 0 ↔ v = 0 := by
 constructor
 ·intro h2
  rw [dV h] at h2
  have h3 := fD h
  have : (v : Rat) = 0 := by
   have h4 : (v : Rat) / (D : Rat) * D = 0 := by rw [h2]; grind
   rw [Rat.div_mul_cancel h3] at h4
   exact h4
  exact_mod_cast this
 ·rintro rfl; exact tJ h
theorem QK {v D l : Int} (h : D ≠ 0) (hl : l ≠ 0) : cS (v * l) (D * l) = cS v D := by
 rw [dV h, dV (Int.mul_ne_zero h hl), Rat.intCast_mul, Rat.intCast_mul]
 have h1 := fD h
 have h2 := fD hl
 grind
theorem adT {v w D : Int} (h : D ≠ 0) : cS v D + cS w D = cS (v + w) D := by
 rw [dV h, dV h, dV h, Rat.intCast_add]
 have h1 := fD h
 grind
theorem QL {v D : Int} (h : D ≠ 0) : cS v D * (-1) = cS (-v) D := by
 rw [dV h, dV h, Rat.intCast_neg]
 have h1 := fD h
 grind
theorem ZW {v w D : Int} (h : D ≠ 0) : (w : Rat) * cS v D = cS (w * v) D := by
 rw [dV h, dV h, Rat.intCast_mul]
 have h1 := fD h
 grind
theorem adU {v D l : Int} (h : D ≠ 0) (hl : l ≠ 0) : cS v D / (l : Rat) = cS v (D * l) := by
 rw [dV h, dV (Int.mul_ne_zero h hl), Rat.intCast_mul]
 have h1 := fD h
 have h2 := fD hl
 grind
theorem tK {D : Int} (h : D ≠ 0) : ∀ x : List Int, lK (qd x D) = qd (aM x) D
 | [] => rfl
 | a :: x => by
  have ih := tK h x
  simp only [qd, List.map_cons] at ih ⊢
  rw [lK, ih, aM]
  by_cases h1 : aM x = [] ∧ a = 0
  ·simp [h1, tJ h]
  ·rw [if_neg h1, if_neg (by simpa [wJ h] using h1)]; simp
theorem FJ {D : Int} (h : D ≠ 0) (x : List Int) (k : Nat) : nth (qd x D) k = cS (nth x k) D := xJ (f := fun v => cS v D) (tJ h) x k
theorem adV {D : Int} (h : D ≠ 0) (x y : List Int) : ZH (qd x D) (qd y D) = qd (fX x y) D := by
 rw [ZH, fX, ← tK h]
 congr 1
 simp only [qd, List.length_map, List.map_map]
 congr 1
 funext k
 simp only [Function.comp_apply]
 rw [show nth (List.map (fun v => cS v D) x) k = _ from FJ h x k, show nth (List.map (fun v => cS v D) y) k = _ from FJ h y k, adT h]
theorem adW {D : Int} (h : D ≠ 0) (x : List Int) : jA (qd x D) (-1) = qd (fG x) D := by
 rw [jA, fG, ← tK h]
 congr 1
 simp only [qd, List.map_map]
 congr 1
 funext k
 simp only [Function.comp_apply]
 exact QL h
theorem UF {D : Int} (h : D ≠ 0) (y : List Int) (v : Int) : jA (qs y) (cS v D) = qd (aV y v) D := by
 rw [jA, aV, ← tK h]
 congr 1
 simp only [qd, qs, List.map_map]
 congr 1
 funext k
 simp only [Function.comp_apply]
 exact ZW h
theorem NN {D l : Int} (h : D ≠ 0) (hl : l ≠ 0) (x : List Int) : qd (x.map (· * l)) (D * l) = qd x D := by
 simp only [qd, List.map_map]
 congr 1
 funext k
 simp only [Function.comp_apply]
 exact QK h hl
theorem FK (x : List Int) : qd x 1 = qs x := by
 simp only [qd, qs, kK]
theorem rU {v D : Int} {k : Nat} (h : D ≠ 0) (hv : sz 2 v ≤ k) (hD : sz 2 D ≤ k) : ZR k (cS v D) := by
 refine ⟨Nat.le_trans (cC (by decide) ?_) hv, Nat.le_trans (cC (by decide) ?_) hD⟩
 ·rw [nU _ _ h]
  refine Nat.le_trans (Int.natAbs_ediv_le_natAbs _ _) ?_
  split <;> simp
 ·rw [nV _ _ h]
  refine Nat.le_trans (Int.natAbs_ediv_le_natAbs _ _) ?_
  split <;> simp
theorem NO {x : List Int} {D : Int} {k n : Nat} (h : D ≠ 0) (hx : Bd 2 k n x) (hD : sz 2 D ≤ k) (hk : k ≤ YY) (hn : n < 1099511627776) : T9 (qd x D) := ⟨fun q hq => by
 simp only [List.mem_map] at hq
 obtain ⟨v, hv, rfl⟩ := hq
 exact rU h (Nat.le_trans (hx.sz v hv) hk) (Nat.le_trans hD hk), by have := hx.len; simp; omega⟩
structure DS where
 Q : List Int
 r : List Int
 D : Int
def dst (y : List Int) (σ : DS) : DS := ⟨(σ.Q.map (· * lead y)).set (σ.r.length - y.length) (lead σ.r), uF y (lead y) (lead σ.r) (σ.r.length - y.length) σ.r, σ.D * lead y⟩
def UG (y : List Int) : Nat → DS → DS
 | 0, σ => σ
 | n + 1, σ => if σ.r.length < y.length then σ else UG y n (dst y σ)
def ZY (x y : List Int) : DS := UG y (x.length + 1) ⟨List.replicate (iD x y) 0, x, 1⟩
theorem FL {y : List Int} {σ : DS} (hy : 0 < y.length) (h : y.length ≤ σ.r.length) : (dst y σ).r.length < σ.r.length := by
 have h1 := xL (b := y) (r := σ.r) (i := σ.r.length - y.length) hy (by omega)
 rw [show s6 y σ.r (σ.r.length - y.length) = lead σ.r from by rw [s6, if_pos (by omega)]] at h1
 show (uF y (lead y) (lead σ.r) (σ.r.length - y.length) σ.r).length < _
 omega
theorem adX {y : List Int} {σ : DS} (h : σ.r.length < y.length) : ∀ n, UG y n σ = σ
 | 0 => rfl
 | n + 1 => by rw [UG, if_pos h]
structure rV (x y : List Int) (σ : DS) : Prop where
 v : ∀ t, σ.D * V t x = V t σ.Q * V t y + V t σ.r
 z : ∀ j, j + y.length ≤ σ.r.length → nth σ.Q j = 0
 c : Cn σ.r
 d : σ.D ≠ 0
 q : σ.r.length + 1 ≤ σ.Q.length + y.length ∨ σ.r.length < y.length
theorem rV.step {x y : List Int} {σ : DS} (cy : Cn y) (hy : 0 < y.length) (h : y.length ≤ σ.r.length) (hI : rV x y σ) : rV x y (dst y σ) := by
 have hl := cD cy hy
 have eV := FL hy h
 have hq := hI.q.resolve_right (by omega)
 have hk : σ.r.length - y.length < (σ.Q.map (· * lead y)).length := by simp; omega
 have h1 := xL (b := y) (r := σ.r) (i := σ.r.length - y.length) hy (by omega)
 rw [show s6 y σ.r (σ.r.length - y.length) = lead σ.r from by rw [s6, if_pos (by omega)]] at h1
 refine ⟨fun t => ?_, fun j hj => ?_, Cn.dX _ _, Int.mul_ne_zero hI.d hl, ?_⟩
 ·have h2 := hI.v t
  have h3 := CY (b := t) (x := lead σ.r) hk
  have h4 : nth (σ.Q.map (· * lead y)) (σ.r.length - y.length) = 0 := by
   rw [iE, hI.z _ (by omega)]; simp
  show σ.D * lead y * V t x = V t ((σ.Q.map (· * lead y)).set (σ.r.length - y.length) (lead σ.r)) * V t y + V t (uF y (lead y) (lead σ.r) (σ.r.length - y.length) σ.r)
  rw [h3, h4, dC, uF, gP, cP, lV, bT]
  have h5 : σ.D * lead y * V t x = lead y * (σ.D * V t x) := by grind
  rw [h5, h2]; grind
 ·have hj : j + y.length ≤ (uF y (lead y) (lead σ.r) (σ.r.length - y.length) σ.r).length := hj
  show nth ((σ.Q.map (· * lead y)).set (σ.r.length - y.length) (lead σ.r)) j = 0
  rw [fC (by omega), iE, hI.z _ (by omega)]; simp
 ·left
  have : (dst y σ).Q.length = σ.Q.length := by simp [dst]
  omega
theorem rV.UG {x y : List Int} (cy : Cn y) (hy : 0 < y.length) : ∀ (n : Nat) (σ : DS), σ.r.length < n → rV x y σ → rV x y (UG y n σ) ∧ (Proofs.YtbbjgncblhfegaaGreat.UG y n σ).r.length < y.length
 | 0, σ, h, _ => by omega
 | n + 1, σ, h, hI => by
  rw [Proofs.YtbbjgncblhfegaaGreat.UG]
  split
  ·rename_i h1; exact ⟨hI, h1⟩
  ·rename_i h1
   exact rV.UG cy hy n _ (by have := FL (σ := σ) hy (by omega); omega) (hI.step cy hy (by omega))
theorem rV.start {x y : List Int} (cx : Cn x) : rV x y ⟨List.replicate (iD x y) 0, x, 1⟩ := by
 refine ⟨fun t => ?_, fun j hj => ?_, cx, show (1 : Int) ≠ 0 by decide, ?_⟩
 ·simp [oE]
 ·rcases Nat.lt_or_ge j (iD x y) with h | h
  ·rw [cL (by simpa using h)]; simp
  ·rw [fV (by simpa using h)]; rfl
 ·simp only [iD, List.length_replicate]; omega
theorem adY {x y : List Int} (cx : Cn x) (cy : Cn y) (hy : 0 < y.length) : rV x y (ZY x y) ∧ (ZY x y).r.length < y.length := rV.UG cy hy _ _ (Nat.lt_succ_self _) (rV.start cx)
@[simp] theorem aoQ {l : List Rat} {i : Nat} {q : Rat} : iK (emap re l) i 0 [aJ aF (aQ DD q.num.natAbs), .bool (decide (q.num < 0)), aJ aF (aQ DD q.den), .bool false] = emap re (l.set i q) := xM (n := 4) (fun _ => rfl)
theorem z7 (x : List Int) : emap re (qs x) = emap ri x := by simp only [emap, qs, List.map_map, Function.comp_def, fL]
theorem ZZ (a b n : List Rat) (ha : T9 a) (hb : T9 b) (hn : jA b (-1) = n) (hn2 : T9 n) : aK env.P 152 [PP a, PP b] (PP (ZH a n)) := by
 have h1 := JF b hb
 rw [hn] at h1
 have h2 := ZI a n ha hn2
 refine aB (E := env) (fun _ => 0) [(0, PP a), (1, PP b)] Tryz.func152 rfl (by kernel_rfl) (by kernel_rfl) (show 2 ≤ 9 by decide) (by simp) ?_
 refine W.sr ?_; simp (disch := omega) [gw]; refine W.lx [0, 1] ?_; simp
 refine W.sr ?_
 simp (disch := omega) [gw]
 refine aA h1 ?_
 simp (disch := omega) [gw]
 refine aA h2 ?_
 simp (disch := omega) [gw]
 refine W.lx [4] ?_; simp
 refine W.ret ?_
 simp [go]
def G4 (l : List Rat) : Int := l.foldl (fun d q => (d * q.den).tdiv (Int.gcd d q.den)) 1
def QM (d : Int) (l : List Rat) : Int := l.foldl (fun (g : Int) q => (Int.gcd g ((q.num * d).tdiv q.den) : Int)) 0
theorem Z0 {l : List Rat} {i : Nat} (h : i < l.length) : G4 (l.take (i + 1)) = (G4 (l.take i) * (nth l i).den).tdiv (Int.gcd (G4 (l.take i)) (nth l i).den) := by
 unfold G4; rw [aX h, List.foldl_append]; rfl
theorem Z2 {l : List Rat} {d : Int} {i : Nat} (h : i < l.length) : QM d (l.take (i + 1)) = (Int.gcd (QM d (l.take i)) (((nth l i).num * d).tdiv (nth l i).den) : Int) := by
 unfold QM; rw [aX h, List.foldl_append]; rfl
theorem Z3 (q : Rat) : RI (q.den : Int) = .ag [aJ aF (aQ DD q.den), .bool false] := by
 simp [show ¬ ((q.den : Int) < 0) by omega]
def NP (l : List Rat) : Rat := if (nth l (l.length - 1)).num < 0 then -(cS (QM (G4 l) l) (G4 l)) else cS (QM (G4 l) l) (G4 l)
def qpr (l : List Rat) : List Rat := jA l (1 / NP l)
theorem pN (l : List Rat) {k : Nat} (hk : k ≤ YY) (hk1 : 1 ≤ k) (hl : ∀ q ∈ l, ZR k q) (VL : l.length < 1099511627776) (h0 : l ≠ [])
  (hd : ∀ i, sz 2 (G4 (l.take i)) ≤ k) (NF : ∀ i, 0 < G4 (l.take i)) (hg : ∀ i, sz 2 (QM (G4 l) (l.take i)) ≤ k)
  (hc : ZR YY (NP l)) (uV : NP l ≠ 0) (uD : ZR YY (1 / NP l)) :
  aK env.P 191 [PP l] (.eA [RR (NP l), PP (qpr l)]) := by
 have hkY : k ≤ 137438953472 := hk
 have vP : 0 < l.length := List.length_pos_iff.2 h0
 refine aB (E := env) (fun _ => 0) [(0, PP l)] Tryz.func191 rfl (by kernel_rfl) (by kernel_rfl) (show 1 ≤ 75 by decide) (by simp) ?_
 refine W.sr ?_; simp (disch := omega) [gw]; refine W.lx [0, 2] ?_; simp
 refine W.seq ?_
 refine W.sr ?_; simp (disch := omega) [gw]; refine W.lx [0, 2, 11] ?_; simp
 refine W.cond ⟨_, rfl, fun h => ?_, fun h => ?_⟩
 ·exfalso; simp at h; exact h0 h
 refine W.skip ?_
 refine W.sr ?_
 simp (disch := omega) [gw]
 refine aA (lW 1 (by decide) (by decide)) ?_
 simp (disch := omega) [gw]
 refine W.lx [0, 2, 4] ?_; simp
 refine W.seq ?_
 refine W.sr ?_; simp (disch := omega) [gw]; refine W.lx [0, 2, 4, 15, 16] ?_; simp
 refine W.block ?_
 refine W.bB (fun n σ => ∃ (i : Nat) (d : Int) (rows : Pm.Rows) (clk : Nat), σ = ⟨fa [(0, PP l), (2, .ptr 2 0 0 0), (4, .ptr 4 1 0 0), (15, .int .i64 l.length), (16, .int .i64 i)], rows, clk⟩ ∧
  rows 2 = some ⟨0, 50, 4, [[.nil, .bool false, .nil, .bool false]]⟩ ∧ rows 4 = some ⟨1, 48, 2, [[aJ aF (aQ DD d.natAbs), .bool (decide (d < 0))]]⟩ ∧ n = l.length - i ∧ i ≤ l.length ∧ d = G4 (l.take i)) l.length ?_ ?_
 ·exact ⟨_, .refl, 0, 1, _, _, rfl, by simp, by simp, by omega, by omega, by simp [G4]⟩
 rintro n _ ⟨i, d, rows, clk, rfl, cM, jI, hn, hi, Y2⟩
 refine W.sr ?_; simp (disch := omega) [gw]; refine W.lx [0, 2, 4, 15, 16, 17] ?_; simp
 refine W.seq ?_
 refine W.cond ⟨_, rfl, fun h => ?_, fun h => ?_⟩
 ·have hi : i < l.length := by simp at h; omega
  have hq := hl _ (bL hi)
  have hdi := hd i
  have hdp := NF i
  have hs := Z0 hi
  rw [← Y2] at hs hdi hdp
  have hsn := hd (i + 1)
  have m1 := dN d (nth l i).den (by simp only [Z]; omega) (by have := hq.d; simp only [Z]; omega)
  have m2 := zV d (nth l i).den (by simp only [Y]; omega) (by have := hq.d; simp only [Y]; omega)
  have zm := bR (b := 2) (by decide) hdi hq.d
  have hgp : 0 < Int.gcd d (nth l i).den := Int.gcd_pos_of_ne_zero_left _ (by omega)
  have zg : Y (Int.gcd d (nth l i).den : Int) := zU (y := d) (by simp only [Y]; omega) (by
   have := Int.le_of_dvd hdp (Int.gcd_dvd_left d ((nth l i).den : Int)); omega)
  have m3 := tE (d * (nth l i).den) (Int.gcd d (nth l i).den) (by omega) (by simp only [Y]; omega) zg
  rw [← hs] at m3
  rw [Z3] at m1 m2
  generalize (Int.gcd d (nth l i).den : Int) = gg at *
  generalize d * ((nth l i).den : Int) = dd at *
  generalize SO : G4 (l.take (i + 1)) = d2 at *
  generalize UH : nth l i = q at *
  refine W.skip ?_
  refine W.seq ?_
  refine W.block ?_
  refine W.sr ?_; simp (disch := omega) [gw, UH]; refine W.lx [0, 2, 4, 5, 15, 16] ?_; simp
  refine W.MV (fun K hK => ?_)
  simp (disch := omega) [gw, jI, UH]
  refine aA m1 ?_
  simp (disch := omega) [gw, jI, UH]
  refine aA m2 ?_
  simp (disch := omega) [gw, jI, UH]
  refine aA m3 ?_
  simp (disch := omega) [gw, jI, UH]
  refine b6 (by refine ⟨?_, ?_⟩ <;> kernel_rfl) ?_
  simp (disch := omega) [gw]
  refine W.lw [0, 2, 4, 15, 16] hK ?_; clear hK K; simp
  refine W.cA (fun K hK => ?_); simp (disch := omega) [gw]
  refine hK _ ⟨l.length - (i + 1), _, aC _ [0, 2, 4, 15, 16], by omega, i + 1, d2, _, _, rfl, by simp [cM], by simp, by omega, by omega, SO.symm⟩
 have hi : i = l.length := by simp at h; omega
 subst hi
 rw [List.take_length] at Y2
 have WN := hd l.length
 have hdp := NF l.length
 rw [List.take_length, ← Y2] at WN hdp
 rw [← Y2] at hg
 have hqc : NP l = if (nth l (l.length - 1)).num < 0 then -(cS (QM d l) d) else cS (QM d l) d := by rw [Y2]; rfl
 refine W.exit ?_; simp only [pX, if_true, if_false, reduceIte, Nat.reduceEqDiff]
 refine W.sr ?_; simp (disch := omega) [gw]; refine W.lx [0, 2, 4, 6] ?_; simp
 refine W.row (id := 6) (els := [[.nil, .bool false]]) [[aJ aF (aQ DD 0), .bool false]] (by simp; first | exact ⟨rfl, rfl, rfl⟩ | exact ⟨rfl, rfl, rfl, rfl⟩) ⟨⟨.inr ⟨rfl, rfl⟩, .inl rfl, trivial⟩, trivial⟩ ?_
 refine W.seq ?_
 refine W.sr ?_; simp (disch := omega) [gw]; refine W.lx [0, 2, 4, 6, 36, 37] ?_; simp
 refine W.block ?_
 clear Y2
 refine W.bB (fun n σ => ∃ (i v6 : Nat) (g : Int) (rows : Pm.Rows) (clk : Nat), σ = ⟨fa [(0, PP l), (2, .ptr 2 0 0 0), (4, .ptr 4 1 0 0), (6, .ptr 6 v6 0 0), (36, .int .i64 l.length), (37, .int .i64 i)], rows, clk⟩ ∧
  rows 2 = some ⟨0, 50, 4, [[.nil, .bool false, .nil, .bool false]]⟩ ∧ rows 4 = some ⟨1, 48, 2, [[aJ aF (aQ DD d.natAbs), .bool (decide (d < 0))]]⟩ ∧
  rows 6 = some ⟨v6, 48, 2, [[aJ aF (aQ DD g.natAbs), .bool (decide (g < 0))]]⟩ ∧ n = l.length - i ∧ i ≤ l.length ∧ g = QM d (l.take i)) l.length ?_ ?_
 ·exact ⟨_, .refl, 0, _, 0, _, _, rfl, by simp [cM], by simp [jI], by simp, by omega, by omega, by simp [QM]⟩
 clear cM jI rows clk
 rintro n _ ⟨i, v6, g, rows, clk, rfl, cM, jI, tL, hn, hi, hgv⟩
 refine W.sr ?_; simp (disch := omega) [gw]; refine W.lx [0, 2, 4, 6, 36, 37, 38] ?_; simp
 refine W.seq ?_
 refine W.cond ⟨_, rfl, fun h => ?_, fun h => ?_⟩
 ·have hi : i < l.length := by simp at h; omega
  have hq := hl _ (bL hi)
  have hgi := hg i
  have hs := Z2 (d := d) hi
  rw [← hgv] at hs hgi
  have m1 := dN (nth l i).num d (by have := hq.n; simp only [Z]; omega) (by simp only [Z]; omega)
  have zm := bR (b := 2) (by decide) hq.n WN
  have m2 := tE ((nth l i).num * d) (nth l i).den (by have := (nth l i).den_nz; omega) (by simp only [Y]; omega) (by have := hq.d; simp only [Y]; omega)
  have zq : Y (((nth l i).num * d).tdiv (nth l i).den) := zU (y := (nth l i).num * d) (by simp only [Y]; omega) (by rw [Int.natAbs_tdiv]; exact Nat.div_le_self _ _)
  have m3 := zV g (((nth l i).num * d).tdiv (nth l i).den) (by simp only [Y]; omega) zq
  rw [← hs] at m3
  rw [Z3] at m2
  generalize ((nth l i).num * d).tdiv (nth l i).den = nq at *
  generalize (nth l i).num * d = nd at *
  generalize oX : QM d (l.take (i + 1)) = g2 at *
  generalize UH : nth l i = q at *
  refine W.skip ?_
  refine W.seq ?_
  refine W.block ?_
  refine W.sr ?_; simp (disch := omega) [gw, UH]; refine W.lx [0, 2, 4, 6, 7, 36, 37] ?_; simp
  refine W.MV (fun K hK => ?_)
  simp (disch := omega) [gw, jI, tL, UH]
  refine aA m1 ?_
  simp (disch := omega) [gw, jI, tL, UH]
  refine aA m2 ?_
  simp (disch := omega) [gw, jI, tL, UH]
  refine aA m3 ?_
  simp (disch := omega) [gw, jI, tL, UH]
  refine b6 (by kernel_rfl) ?_
  simp (disch := omega) [gw]
  refine W.lw [0, 2, 4, 6, 36, 37] hK ?_; clear hK K; simp
  refine W.cA (fun K hK => ?_); simp (disch := omega) [gw]
  refine hK _ ⟨l.length - (i + 1), _, aC _ [0, 2, 4, 6, 36, 37], by omega, i + 1, v6, g2, _, _, rfl, by simp [cM], by simp [jI], by simp, by omega, by omega, oX.symm⟩
 have hi : i = l.length := by simp at h; omega
 subst hi
 rw [List.take_length] at hgv
 have hgl := hg l.length
 rw [List.take_length] at hgl
 rw [← hgv] at hgl hqc
 have hMk := k8 g d (by simp only [Y]; omega) (by simp only [Y]; omega)
 have hNg := JC (cS g d)
 have hQ := zZ 1 (NP l) ⟨by show sz 2 1 ≤ YY; exact Nat.le_trans (cG (k := 1) (by decide) (by decide)) (by decide), by show sz 2 1 ≤ YY; exact Nat.le_trans (cG (k := 1) (by decide) (by decide)) (by decide)⟩ hc uV
 have hOf := nW 1 1 (by decide) (by decide)
 rw [kK, show (((1 : Int)) : Rat) = 1 by simp] at hOf
 have hSc := nX l (1 / NP l) ⟨fun q hq => ⟨Nat.le_trans (hl q hq).n hk, Nat.le_trans (hl q hq).d hk⟩, VL⟩ uD
 rw [show jA l (1 / NP l) = qpr l from rfl] at hSc
 have e1 : ((l.length : Int) - 1).toNat = l.length - 1 := by omega
 generalize qpr l = pr at *
 generalize gT : (1 : Rat) = one at *
 generalize one / NP l = ic at *
 generalize NP l = cc at *
 generalize hqm : cS g d = c0 at *
 generalize UH : nth l (l.length - 1) = q at *
 refine W.exit ?_; simp only [pX, if_true, if_false, reduceIte, Nat.reduceEqDiff]
 refine W.sr ?_
 simp (disch := omega) [gw, jI, tL]
 refine aA hMk ?_
 simp (disch := omega) [gw]
 refine W.lx [0, 2, 8] ?_; simp
 refine W.fO (fun σ => ∃ (v8 : Nat) (rows : Pm.Rows) (clk : Nat), σ = ⟨fa [(0, PP l), (2, .ptr 2 0 0 0), (8, .ptr 8 v8 0 0)], rows, clk⟩ ∧ rows 2 = some ⟨0, 50, 4, [[.nil, .bool false, .nil, .bool false]]⟩ ∧ rows 8 = some ⟨v8, 50, 4, [re cc]⟩) ?_ ?_
 ·refine W.sr ?_; simp (disch := omega) [gw, e1, UH]; refine W.lx [0, 2, 8, 66] ?_; simp
  refine W.X7 (q.num < 0) rfl (fun h => ?_) (fun h => ?_)
  ·rw [if_pos h] at hqc
   rw [← hqc] at hNg
   refine W.cA (fun K hK => ?_)
   simp (disch := omega) [gw]
   refine aA hNg ?_
   simp (disch := omega) [gw]
   exact hK _ ⟨_, aC _ [0, 2, 8], _, _, _, rfl, by simp [cM], by simp⟩
  ·rw [if_neg h] at hqc
   refine W.skip ?_
   exact ⟨_, aC _ [0, 2, 8], _, _, _, rfl, by simp [cM], by simp [hqc]⟩
 clear cM jI tL rows clk
 rintro _ ⟨v8, rows, clk, rfl, cM, xG⟩
 refine W.sd ?_
 simp (disch := omega) [gw, xG]
 refine aA hOf ?_
 simp (disch := omega) [gw, xG]
 refine aA hQ ?_
 simp (disch := omega) [gw, xG]
 refine aA hSc ?_
 simp (disch := omega) [gw, cM, xG]
 refine W.lx [2, 3] ?_; simp
 refine W.ret ?_
 simp [go]
theorem adZ (x : List Int) (hx : ∀ c ∈ x, Z c) (hl : x.length < 1099511627776) : aK env.P 22 [PI x] (Po x) := by
 refine aB (E := env) (fun _ => 0) [(0, PI x)] Tryz.func22 rfl (by kernel_rfl) (by kernel_rfl) (show 1 ≤ 21 by decide) (by simp) ?_
 refine W.sr ?_; simp (disch := omega) [gw]; refine W.lx [0] ?_; simp
 refine W.sr ?_; simp (disch := omega) [gw]; refine W.lx [0, 3] ?_; simp
 refine W.nil 3 3 40 2 (by simp) (by decide) (fun K hK => ?_)
 refine W.lw [0, 3] hK ?_; clear hK K; simp
 refine W.seq ?_
 refine W.sr ?_; simp (disch := omega) [gw]; refine W.lx [0, 3, 6, 7] ?_; simp
 refine W.block ?_
 refine W.bB (fun k σ => ∃ (i ver : Nat) (rows : Pm.Rows) (clk : Nat), σ = ⟨fa [(0, PI x), (3, .own 3 ver 0 i), (6, .int .i64 x.length), (7, .int .i64 i)], rows, clk⟩ ∧ rows 3 = some ⟨ver, 40, 2, emap ie (x.take i)⟩ ∧ k = x.length - i ∧ i ≤ x.length) x.length ?_ ?_
 ·exact ⟨_, .refl, 0, _, _, _, rfl, by simp [emap], by omega, by omega⟩
 rintro k _ ⟨i, ver, rows, clk, rfl, hr, hk, hi⟩
 refine W.sr ?_; simp (disch := omega) [gw]; refine W.lx [0, 3, 6, 7, 8] ?_; simp
 refine W.seq ?_
 refine W.cond ⟨_, rfl, fun h0 => ?_, fun h0 => ?_⟩
 ·have h0 : i < x.length := by simp at h0; omega
  have eO : (x.take i).length = i := by simp; omega
  have hT := FE (nth x i) (hx _ (bL h0))
  refine W.skip ?_
  refine W.seq ?_
  refine W.block ?_
  refine W.sr ?_; simp (disch := omega) [gw]; refine W.lx [0, 3, 4, 6, 7] ?_; simp
  refine W.cA (fun K hK => ?_)
  simp (disch := omega) [gw]
  refine aA hT ?_
  simp (disch := omega) [gw, hr, eO]
  refine W.lw [0, 3, 6, 7] hK ?_; clear hK K; simp
  refine W.cA (fun K hK => ?_); simp (disch := omega) [gw]
  refine hK _ ⟨x.length - (i + 1), _, aC _ [0, 3, 6, 7], by omega, i + 1, _, _, _, rfl, ?_, by omega, by omega⟩
  rw [aX h0]
  simp
 ·have kE : i = x.length := by simp at h0; omega
  subst kE
  rw [List.take_length] at hr
  refine W.exit ?_; simp only [pX, if_true, if_false, reduceIte, Nat.reduceEqDiff]
  refine W.sr ?_
  simp (disch := omega) [gw, hr]
  refine W.lx [2] ?_; simp
  refine W.ret ?_
  simp [go, hr]
theorem FM (x : List Int) : G4 (qs x) = 1 := by
 have key : ∀ l : List Int, (qs l).foldl (fun (d : Int) q => (d * q.den).tdiv (Int.gcd d q.den)) 1 = 1 := by
  intro l
  induction l with
  | nil => rfl
  | cons a l ih =>
   simp only [qs, List.map_cons, List.foldl_cons, Rat.den_intCast] at ih ⊢
   exact ih
 exact key x
theorem Z4 (x : List Int) : QM 1 (qs x) = bI x := by
 have key : ∀ (l : List Int) (g : Nat), (qs l).foldl (fun (g : Int) q => (Int.gcd g ((q.num * 1).tdiv q.den) : Int)) g = (l.foldl (fun g c => Nat.gcd g c.natAbs) g : Nat) := by
  intro l
  induction l with
  | nil => intro g; rfl
  | cons a l ih =>
   intro g
   have := ih (Nat.gcd g a.natAbs)
   simp only [qs, List.map_cons, List.foldl_cons, Rat.den_intCast, Rat.num_intCast] at this ⊢
   rw [← this]
   congr 1
   simp [Int.gcd]
 exact key x 0
theorem FN (x : List Int) (i : Nat) : (qs x).take i = qs (x.take i) := by simp [qs, List.map_take]
theorem z8 {x : List Int} (hx : 0 < x.length) : NP (qs x) = (jE x : Rat) := by
 have e : (nth (qs x) ((qs x).length - 1)).num = lead x := by rw [ZJ]; simp [lead]
 unfold NP jE
 rw [FM, Z4, kK, e]
 split
 ·rw [Rat.intCast_neg]
 ·rfl
theorem aji {x : List Int} (cx : Cn x) (hx : x ≠ []) : qpr (qs x) = qs (pM x) := by
 have mR := List.length_pos_iff.2 hx
 have h0 := lZ x
 have gx := bU cx hx
 have hp : jE x ≠ 0 := by omega
 have hc := fD hp
 rw [qpr, z8 mR, jA, pM, ← tG]
 congr 1
 simp only [qs, List.map_map]
 refine List.map_congr_left fun v hv => ?_
 simp only [Function.comp_apply]
 have hd := FH x v hv
 obtain ⟨w, rfl⟩ := hd
 have : oQ (jE x) (jE x * w) = w := by
  unfold oQ
  rw [if_pos (Int.mul_emod_right _ _)]
  exact Int.mul_ediv_cancel_left _ hp
 rw [this, Rat.intCast_mul]
 grind
theorem kL {x : List Int} {s : Nat} (hs : ∀ c ∈ x, sz 2 c ≤ s) : sz 2 (bI x : Int) ≤ s := by
 by_cases h : ∃ c ∈ x, c ≠ 0
 ·obtain ⟨c, hc, h0⟩ := h
  refine Nat.le_trans (cC (by decide) ?_) (hs c hc)
  have := Int.le_of_dvd (a := (bI x : Int)) (b := (c.natAbs : Int)) (by omega) (Int.dvd_natAbs.2 (gB x _ hc))
  omega
 ·have h1 : bI x = 0 := by
   have h2 : (0 : Nat) ∣ bI x := z6 fun c hc => by
    have : c = 0 := Classical.byContradiction fun h3 => h ⟨c, hc, h3⟩
    rw [this]; exact Int.dvd_refl _
   exact Nat.eq_zero_of_zero_dvd h2
  rw [h1]; show sz 2 0 ≤ s; rw [i7]; omega
theorem z9 (x : List Int) {s n : Nat} (hx : Bd 2 s n x) (cx : Cn x) (oP : 1 ≤ s) (hs : s ≤ YY) (hn : n < 1099511627776) : aK env.P 191 [PI x] (.eA [.ag (ri (jE x)), PI (pM x)]) := by
 have K4 := hx.len
 by_cases h0 : x = []
 ·subst h0
  have hz := m9
  rw [show jE ([] : List Int) = 0 by decide, show pM ([] : List Int) = [] from rfl]
  refine aB (E := env) (fun _ => 0) [(0, PI [])] Tryz.func191 rfl (by kernel_rfl) (by kernel_rfl) (show 1 ≤ 75 by decide) (by simp) ?_
  refine W.sr ?_; simp (disch := omega) [gw]; refine W.lx [0, 2] ?_; simp
  refine W.seq ?_
  refine W.sr ?_; simp (disch := omega) [gw]; refine W.lx [0, 2, 11] ?_; simp
  refine W.cond ⟨_, rfl, fun h => ?_, fun h => ?_⟩
  ·refine W.sr ?_
   simp (disch := omega) [gw]
   refine aA hz ?_
   simp (disch := omega) [gw]
   refine W.lx [2, 3] ?_; simp
   refine W.ret ?_
   simp [go]
   all_goals rfl
  ·simp at h
 ·have mR := List.length_pos_iff.2 h0
  have hp := lZ x
  have gx := bU cx h0
  have KX : jE x ≠ 0 := by omega
  have hgs : ∀ i, sz 2 (bI (x.take i) : Int) ≤ s := fun i => kL fun c hc => hx.sz c (List.mem_of_mem_take hc)
  have wH : sz 2 (jE x) ≤ s := by
   have := kL hx.sz
   unfold jE; split
   ·rw [mK]; exact this
   ·exact this
  have s1 : sz 2 1 ≤ 1 := cG (by decide) (by decide)
  have zc : ZR YY (jE x : Rat) := mL (Nat.le_trans wH hs) (by decide)
  have e1 : (1 : Rat) / (jE x : Rat) = cS 1 (jE x) := by rw [dV KX]; simp
  have := pN (qs x) hs oP (fun q hq => by
   simp only [qs, List.mem_map] at hq
   obtain ⟨c, hc, rfl⟩ := hq
   exact mL (hx.sz c hc) oP) (by simp; omega) (by simpa [qs] using h0)
   (fun i => by rw [FN, FM]; omega) (fun i => by rw [FN, FM]; decide) (fun i => by rw [FM, FN, Z4]; exact hgs i)
   (by rw [z8 mR]; exact zc) (by rw [z8 mR]; exact fD KX) (by rw [z8 mR, e1]; exact rU KX (by show sz 2 1 ≤ 137438953472; omega) (Nat.le_trans wH hs))
  rw [z8 mR, aji cx h0, oH, oH, RR, fL] at this
  exact this
theorem UI {D a b : Nat} (hD : 0 < D) (ha : a ∣ D) (hb : b ∣ D) : Nat.lcm (D / a) (D / b) = D / Nat.gcd a b := by
 have ha0 : 0 < a := Nat.pos_of_dvd_of_pos ha hD
 have hb0 : 0 < b := Nat.pos_of_dvd_of_pos hb hD
 have hg : 0 < Nat.gcd a b := Nat.gcd_pos_of_pos_left _ ha0
 obtain ⟨a', b', hc, ea, eb⟩ := Nat.exists_coprime a b
 generalize Nat.gcd a b = g at *
 obtain ⟨p, hp⟩ := ha
 obtain ⟨q, hq⟩ := hb
 have h1 : a' * p = b' * q := by
  have : g * (a' * p) = g * (b' * q) := by rw [ea] at hp; rw [eb] at hq; grind
  exact Nat.eq_of_mul_eq_mul_left hg this
 have h2 : a' ∣ q := hc.dvd_of_dvd_mul_left (by rw [← h1]; exact Nat.dvd_mul_right _ _)
 obtain ⟨m, rfl⟩ := h2
 have atX : 0 < a' := by
  rcases Nat.eq_zero_or_pos a' with h | h
  ·rw [h] at ea; omega
  ·exact h
 have h3 : p = b' * m := by
  have : a' * p = a' * (b' * m) := by rw [h1]; grind
  exact Nat.eq_of_mul_eq_mul_left atX this
 subst h3
 have e1 : D / a = b' * m := by rw [hp]; exact Nat.mul_div_cancel_left _ ha0
 have e2 : D / b = a' * m := by rw [hq]; exact Nat.mul_div_cancel_left _ hb0
 have e3 : D / g = a' * b' * m := by
  rw [hp, ea, show a' * g * (b' * m) = g * (a' * b' * m) by grind]
  exact Nat.mul_div_cancel_left _ hg
 rw [e1, e2, e3, Nat.lcm_mul_right, Nat.lcm_comm, Nat.lcm, show a'.gcd b' = 1 from hc, Nat.div_one]
theorem Z5 (n : Nat) (q : Rat) : ((n : Int) * q.den).tdiv (Int.gcd n q.den) = (Nat.lcm n q.den : Nat) := by
 have : Int.gcd (n : Int) (q.den : Int) = Nat.gcd n q.den := rfl
 rw [this, ← Int.natCast_mul, ← Int.ofNat_tdiv]
 rfl
theorem wK {v : Int} {D : Nat} (hD : 0 < D) : (cS v D).den = D / Nat.gcd D v.natAbs := by
 have h := nV v D (by omega)
 have h2 : ¬ (D : Int) < 0 := by omega
 simp only [h2, if_false] at h
 have : Int.gcd v (D : Int) = Nat.gcd D v.natAbs := by rw [Int.gcd, Nat.gcd_comm]; rfl
 rw [this] at h
 exact_mod_cast h
theorem wL {v : Int} {D : Nat} (hD : 0 < D) : (cS v D).num = v / (Nat.gcd D v.natAbs : Nat) := by
 have h := nU v D (by omega)
 have h2 : ¬ (D : Int) < 0 := by omega
 simp only [h2, if_false] at h
 have : Int.gcd v (D : Int) = Nat.gcd D v.natAbs := by rw [Int.gcd, Nat.gcd_comm]; rfl
 rw [this] at h
 exact h
def VS (D : Nat) (x : List Int) : Nat := Nat.gcd D (bI x)
theorem FO {D : Nat} (hD : 0 < D) (x : List Int) : G4 (qd x D) = (D / VS D x : Nat) := by
 have key : ∀ (l : List Int) (g : Nat), g ∣ D → (qd l D).foldl (fun (d : Int) q => (d * q.den).tdiv (Int.gcd d q.den)) (D / g : Nat) = (D / (l.foldl (fun g c => Nat.gcd g c.natAbs) g) : Nat) := by
  intro l
  induction l with
  | nil => intro g _; rfl
  | cons a l ih =>
   intro g hg
   have h1 := ih (Nat.gcd g a.natAbs) (Nat.dvd_trans (Nat.gcd_dvd_left _ _) hg)
   simp only [qd, List.map_cons, List.foldl_cons] at h1 ⊢
   rw [Z5, wK hD, UI hD hg (Nat.gcd_dvd_left _ _)]
   rw [show Nat.gcd g (Nat.gcd D a.natAbs) = Nat.gcd g a.natAbs by rw [← Nat.gcd_assoc, Nat.gcd_eq_left hg]]
   exact h1
 have h2 : ∀ (l : List Int) (g : Nat), l.foldl (fun g c => Nat.gcd g c.natAbs) g = Nat.gcd g (bI l) := by
  intro l
  unfold bI
  induction l with
  | nil => intro g; simp
  | cons a l ih =>
   intro g
   simp only [List.foldl_cons]
   rw [ih, ih (Nat.gcd 0 a.natAbs), Nat.gcd_zero_left, Nat.gcd_assoc]
 have h3 := key x D (Nat.dvd_refl _)
 rw [Nat.div_self hD, h2] at h3
 exact h3
theorem Z6 {D : Nat} (hD : 0 < D) (x : List Int) {G : Nat} (hG : G ∣ D) (hx : ∀ c ∈ x, (G : Int) ∣ c) : QM (D / G : Nat) (qd x D) = (bI x / G : Nat) := by
 have hG0 : 0 < G := Nat.pos_of_dvd_of_pos hG hD
 have key : ∀ (l : List Int) (g : Nat), (∀ c ∈ l, (G : Int) ∣ c) → G ∣ g → (qd l D).foldl (fun (g : Int) q => (Int.gcd g ((q.num * ((D / G : Nat) : Int)).tdiv q.den) : Int)) (g / G : Nat) = ((l.foldl (fun g c => Nat.gcd g c.natAbs) g) / G : Nat) := by
  intro l
  induction l with
  | nil => intro g _ _; rfl
  | cons a l ih =>
   intro g hl hg
   have ha : G ∣ a.natAbs := Int.ofNat_dvd_left.1 (hl a (by simp))
   have h1 := ih (Nat.gcd g a.natAbs) (fun c hc => hl c (by simp [hc])) (Nat.dvd_gcd hg ha)
   simp only [qd, List.map_cons, List.foldl_cons] at h1 ⊢
   have e : ((cS a D).num * ((D / G : Nat) : Int)).tdiv (cS a D).den = a / (G : Int) := by
    rw [wL hD, wK hD]
    have NF : Nat.gcd D a.natAbs ∣ D := Nat.gcd_dvd_left _ _
    have SO : Nat.gcd D a.natAbs ∣ a.natAbs := Nat.gcd_dvd_right _ _
    have hgp : 0 < Nat.gcd D a.natAbs := Nat.gcd_pos_of_pos_left _ hD
    generalize Nat.gcd D a.natAbs = k at *
    obtain ⟨m, hm⟩ := NF
    obtain ⟨n, hn⟩ : (k : Int) ∣ a := Int.ofNat_dvd_left.2 SO
    obtain ⟨p, hp⟩ := hG
    obtain ⟨r, hr⟩ := hl a (by simp)
    have KZ : 0 < m := by
     rcases Nat.eq_zero_or_pos m with h | h
     ·rw [h] at hm; omega
     ·exact h
    rw [show a / (k : Int) = n by rw [hn]; exact Int.mul_ediv_cancel_left _ (by omega), show D / G = p by rw [hp]; exact Nat.mul_div_cancel_left _ hG0, show D / k = m by rw [hm]; exact Nat.mul_div_cancel_left _ hgp,
     show a / (G : Int) = r by rw [hr]; exact Int.mul_ediv_cancel_left _ (by omega)]
    have e2 : n * (p : Int) = m * r := by
     have hDI : (k : Int) * m = G * p := by exact_mod_cast hm.symm.trans hp
     have hk : (k : Int) * n = G * r := hn.symm.trans hr
     have wE : (k : Int) ≠ 0 := by omega
     have hG1 : (G : Int) ≠ 0 := by omega
     have : (k : Int) * G * (n * p) = k * G * (m * r) := by
      have e3 : (k : Int) * G * (n * p) = (k * n) * (G * p) := by grind
      rw [e3, hk, ← hDI]; grind
     exact Int.eq_of_mul_eq_mul_left (Int.mul_ne_zero wE hG1) this
    rw [e2]
    exact Int.mul_tdiv_cancel_left _ (by omega)
   rw [e, show Int.gcd ((g / G : Nat) : Int) (a / (G : Int)) = Nat.gcd g a.natAbs / G from ?_]
   ·exact h1
   ·rw [Int.gcd, Int.natAbs_natCast, ← Nat.gcd_div hg ha]
    congr 1
    obtain ⟨r, hr⟩ := hl a (by simp)
    rw [hr, Int.mul_ediv_cancel_left _ (show (G : Int) ≠ 0 by omega), Int.natAbs_mul, Int.natAbs_natCast, Nat.mul_div_cancel_left _ hG0]
 have := key x 0 hx (Nat.dvd_zero _)
 rw [Nat.zero_div] at this
 exact this
theorem tM (D : Nat) (x : List Int) : VS D x ∣ D := Nat.gcd_dvd_left _ _
theorem QN {D : Nat} (hD : 0 < D) (x : List Int) : 0 < VS D x := Nat.gcd_pos_of_pos_left _ hD
theorem QO (D : Nat) (x : List Int) : ∀ c ∈ x, ((VS D x : Nat) : Int) ∣ c := fun c hc => Int.dvd_trans (Int.ofNat_dvd.2 (Nat.gcd_dvd_right _ _)) (gB x c hc)
theorem wM {v : Int} {D : Nat} (hD : 0 < D) : (cS v D).num < 0 ↔ v < 0 := by
 rw [wL hD]
 have hg : 0 < Nat.gcd D v.natAbs := Nat.gcd_pos_of_pos_left _ hD
 obtain ⟨n, hn⟩ : ((Nat.gcd D v.natAbs : Nat) : Int) ∣ v := Int.ofNat_dvd_left.2 (Nat.gcd_dvd_right _ _)
 generalize Nat.gcd D v.natAbs = g at *
 rw [hn, Int.mul_ediv_cancel_left _ (show (g : Int) ≠ 0 by omega)]
 constructor
 ·intro h; exact Int.mul_neg_of_pos_of_neg (by omega) h
 ·intro h
  rcases Int.lt_or_le n 0 with h1 | h1
  ·exact h1
  ·have := Int.mul_nonneg (show (0 : Int) ≤ g by omega) h1
   omega
theorem Z7 {D : Nat} (hD : 0 < D) {x : List Int} (hx : 0 < x.length) : NP (qd x D) = cS (jE x) D := by
 have uI : (D : Int) ≠ 0 := by omega
 have e : (nth (qd x D) ((qd x D).length - 1)).num < 0 ↔ lead x < 0 := by
  rw [FJ uI, wM hD]; simp [lead]
 have hG := QN hD x
 have e2 : cS (QM (G4 (qd x D)) (qd x D)) (G4 (qd x D)) = cS (bI x) D := by
  rw [FO hD, Z6 hD x (tM D x) (QO D x)]
  have h1 : D / VS D x * VS D x = D := Nat.div_mul_cancel (tM D x)
  have h2 : bI x / VS D x * VS D x = bI x := Nat.div_mul_cancel (Nat.gcd_dvd_right _ _)
  have h3 : 0 < D / VS D x := Nat.div_pos (Nat.le_of_dvd hD (tM D x)) hG
  have h4 := QK (v := (bI x / VS D x : Nat)) (D := (D / VS D x : Nat)) (l := (VS D x : Nat)) (by omega) (by omega)
  rw [← Int.natCast_mul, ← Int.natCast_mul, h1, h2] at h4
  exact h4.symm
 unfold NP jE
 rw [e2]
 by_cases h : lead x < 0
 ·rw [if_pos (e.2 h), if_pos h, ← QL uI]; grind
 ·rw [if_neg (fun h2 => h (e.1 h2)), if_neg h]
theorem QP {v D : Int} (hD : D ≠ 0) (hv : v ≠ 0) : 1 / cS v D = cS D v := by
 rw [dV hD, dV hv]
 have h1 := fD hD
 have h2 := fD hv
 grind
theorem NQ {x : List Int} (cx : Cn x) (hx : x ≠ []) : jE x ≠ 0 := by
 have h0 := lZ x
 have gx := bU cx hx
 omega
theorem ajk {D : Nat} (hD : 0 < D) {x : List Int} (cx : Cn x) (hx : x ≠ []) : qpr (qd x D) = qs (pM x) := by
 have mR := List.length_pos_iff.2 hx
 have uI : (D : Int) ≠ 0 := by omega
 have hp := NQ cx hx
 have hc := fD hp
 have hDc := fD uI
 rw [qpr, Z7 hD mR, QP uI hp, jA, pM, ← tG]
 congr 1
 simp only [qd, qs, List.map_map]
 refine List.map_congr_left fun v hv => ?_
 simp only [Function.comp_apply]
 obtain ⟨w, rfl⟩ := FH x v hv
 have : oQ (jE x) (jE x * w) = w := by
  unfold oQ
  rw [if_pos (Int.mul_emod_right _ _)]
  exact Int.mul_ediv_cancel_left _ hp
 rw [this, dV uI, dV hp, Rat.intCast_mul]
 grind
theorem JQ (x : List Int) : iT x = if lead x < 0 then fG (pM x) else pM x := by
 unfold pM jE
 split
 ·have e : ∀ v, oQ (-(bI x : Int)) v = - oQ (bI x) v := fun v => by
   unfold oQ
   rw [Int.emod_neg, Int.ediv_neg]
   split <;> simp
  refine Cn.ext (Cn.cut _) (Cn.fG _) fun t => ?_
  rw [y9, cB, iT, cB]
  have h1 := fJ (t := t) (-1) (oQ (bI x)) x
  have h2 : (x.map fun v => oQ (bI x) v * -1) = x.map (oQ (-(bI x : Int))) := List.map_congr_left fun v _ => by rw [e]; omega
  rw [h2] at h1
  rw [h1]; omega
 ·rfl
theorem NR (x : List Int) (D : Nat) (hD : 0 < D) {s n : Nat} (hx : Bd 2 s n x) (sD : sz 2 D ≤ s) (cx : Cn x) (h0 : x ≠ []) (oP : 1 ≤ s) (hs : s ≤ YY) (hn : n < 1099511627776) :
  aK env.P 191 [PP (qd x D)] (.eA [RR (cS (jE x) D), PI (pM x)]) := by
 have uI : (D : Int) ≠ 0 := by omega
 have mR := List.length_pos_iff.2 h0
 have hp := NQ cx h0
 have hlen := hx.len
 have sdiv : ∀ (a b : Nat), sz 2 (a : Int) ≤ s → sz 2 ((a / b : Nat) : Int) ≤ s := fun a b h => Nat.le_trans (cC (by decide) (by rw [Int.natAbs_natCast, Int.natAbs_natCast]; exact Nat.div_le_self a b)) h
 have spc : sz 2 (jE x) ≤ s := by
  have := kL hx.sz
  refine Nat.le_trans (cC (by decide) (Nat.le_of_eq ?_)) this
  rw [lZ]; rfl
 have tk : ∀ i, (qd x D).take i = qd (x.take i) D := fun i => by simp [qd, List.map_take]
 have hc := Z7 hD mR
 have h1 := pN (qd x D) (k := s) hs oP (fun q hq => by
   simp only [List.mem_map] at hq
   obtain ⟨v, hv, rfl⟩ := hq
   exact rU uI (hx.sz v hv) sD) (by simp; omega) (by simpa using h0)
  (fun i => by rw [tk, FO hD]; exact sdiv _ _ sD)
  (fun i => by
   rw [tk, FO hD]
   have := Nat.div_pos (Nat.le_of_dvd hD (tM D (x.take i))) (QN hD _)
   omega)
  (fun i => by
   rw [tk, FO hD, Z6 hD (x.take i) (tM D x) (fun c hc => QO D x c (List.mem_of_mem_take hc))]
   exact sdiv _ _ (kL fun c hc => hx.sz c (List.mem_of_mem_take hc)))
  (by rw [hc]; exact rU uI (Nat.le_trans spc hs) (Nat.le_trans sD hs))
  (by rw [hc]; exact fun h => hp ((wJ uI).1 h))
  (by rw [hc, QP uI hp]; exact rU hp (Nat.le_trans sD hs) (Nat.le_trans spc hs))
 rw [hc, ajk hD cx h0, oH] at h1
 exact h1
theorem Z8 {x : List Int} {s n : Nat} (hx : Bd 2 s n x) : Bd 2 s n (pM x) := Bd.cut ⟨by simpa using hx.len, fun c hc => by
 simp only [List.mem_map] at hc
 obtain ⟨v, hv, rfl⟩ := hc
 refine Nat.le_trans (cC (by decide) ?_) (hx.sz v hv)
 unfold oQ
 split
 ·exact Int.natAbs_ediv_le_natAbs _ _
 ·simp⟩
theorem JR (x : List Int) (D : Nat) (hD : 0 < D) {s n : Nat} (hx : Bd 2 s n x) (sD : sz 2 D ≤ s) (cx : Cn x) (oP : 1 ≤ s) (hs : s ≤ YY) (hn : n < 1099511627776) :
  aK env.P 124 [PP (qd x D)] (PI (iT x)) := by
 have uI : (D : Int) ≠ 0 := by omega
 have bp := Z8 hx
 have hN := DE (pM x) (bp.mono hs (by omega))
 rw [JQ]
 have hP : ∃ q : Rat, aK env.P 191 [PP (qd x D)] (.eA [RR q, PI (pM x)]) ∧ (q.num < 0 ↔ lead x < 0) := by
  by_cases h0 : x = []
  ·subst h0
   refine ⟨(jE [] : Int), ?_, ?_⟩
   ·have := z9 [] hx cx oP hs hn
    rw [RR, fL]
    exact this
   ·rw [show jE ([] : List Int) = 0 by decide]; decide
  ·refine ⟨_, NR x D hD hx sD cx h0 oP hs hn, ?_⟩
   rw [wM hD]
   have gx := bU cx h0
   unfold jE
   split <;> omega
 obtain ⟨q, hP, hq⟩ := hP
 generalize pM x = y at *
 generalize qd x D = l at *
 refine aB (E := env) (fun _ => 0) [(0, PP l)] Tryz.func124 rfl (by kernel_rfl) (by kernel_rfl) (show 1 ≤ 16 by decide) (by simp) ?_
 refine W.sr ?_; simp (disch := omega) [gw]; refine W.lx [0] ?_; simp
 refine W.sr ?_
 simp (disch := omega) [gw]
 refine aA hP ?_
 simp (disch := omega) [gw]
 refine W.lx [3, 4] ?_; simp
 refine W.seq ?_
 refine W.sr ?_; simp (disch := omega) [gw]; refine W.lx [4, 12] ?_; simp
 refine W.cond ⟨_, rfl, fun h => ?_, fun h => ?_⟩
 ·simp at h
  rw [if_pos (hq.1 h)]
  refine W.sr ?_
  simp (disch := omega) [gw]
  refine aA hN ?_
  simp (disch := omega) [gw]
  refine W.lx [2] ?_; simp
  refine W.ret ?_
  simp [go]
 ·have h : ¬ q.num < 0 := by simpa using h
  rw [if_neg (fun h2 => h (hq.2 h2))]
  refine W.skip ?_
  refine W.sr ?_; simp (disch := omega) [gw]; refine W.lx [2] ?_; simp
  refine W.ret ?_
  simp [go]
end Go.Proofs.YtbbjgncblhfegaaGreat
