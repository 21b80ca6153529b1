import Derived.Test.YtdiladmkbpnhoaaLja
import Derived.Test.YtdiladmkbpnhoaaLfn
set_option linter.unusedSimpArgs false
set_option linter.unusedVariables false
namespace Go.Proofs.Ytdiladmkbpnhoaa
open Go Pm
def cX (l : List Int) (k : Nat) : Int := if 2 * k + 1 < l.length then nth l (2 * k) % 41 - 20 else 0
def cY (l : List Int) (k : Nat) : Int := if 2 * k + 1 < l.length then nth l (2 * k + 1) % 41 - 20 else 0
theorem cX_bd (l : List Int) (k : Nat) : -20 ≤ cX l k ∧ cX l k ≤ 20 := by unfold cX; split <;> omega
theorem cY_bd (l : List Int) (k : Nat) : -20 ≤ cY l k ∧ cY l k ≤ 20 := by unfold cY; split <;> omega
def ib (X : Nat → Int) (i : Nat) : List PV := [.int .i64 (if 0 < i then X 0 else 0), .int .i64 (if 1 < i then X 1 else 0), .int .i64 (if 2 < i then X 2 else 0), .int .i64 (if 3 < i then X 3 else 0)]
def cb (C : Nat → CV) (i : Nat) : List PV := (if 0 < i then (C 0).cells else [.nil, .nil, .bool false, .nil]) ++ ((if 1 < i then (C 1).cells else [.nil, .nil, .bool false, .nil]) ++ ((if 2 < i then (C 2).cells else [.nil, .nil, .bool false, .nil]) ++ (if 3 < i then (C 3).cells else [.nil, .nil, .bool false, .nil])))
def mb (U V : Nat → Int) (i : Nat) : List PV := (if 0 < i then [.int .i64 (U 0), .int .i64 (V 0), .int .i64 (U 0 * U 0 + V 0 * V 0)] else [.int .i64 0, .int .i64 0, .int .i64 0]) ++ ((if 1 < i then [.int .i64 (U 1), .int .i64 (V 1), .int .i64 (U 1 * U 1 + V 1 * V 1)] else [.int .i64 0, .int .i64 0, .int .i64 0]) ++ (if 2 < i then [.int .i64 (U 2), .int .i64 (V 2), .int .i64 (U 2 * U 2 + V 2 * V 2)] else [.int .i64 0, .int .i64 0, .int .i64 0]))
theorem ib_get (X : Nat → Int) : ∀ i, i < 4 → lget (ib X (i + 1)) i = some (.int .i64 (X i))
 | 0, _ => rfl
 | 1, _ => rfl
 | 2, _ => rfl
 | 3, _ => rfl
 | i + 4, h => by omega
theorem ix_get (X : Nat → Int) : ∀ i, i < 3 → lget [PV.int .i64 (X 0), PV.int .i64 (X 1), PV.int .i64 (X 2), PV.int .i64 (X 3)] i = some (.int .i64 (X i))
 | 0, _ => rfl
 | 1, _ => rfl
 | 2, _ => rfl
 | i + 3, h => by omega
theorem mb_len (U V : Nat → Int) (i : Nat) : (mb U V i).length = 9 := by
 have h : ∀ k, (if k < i then [PV.int .i64 (U k), .int .i64 (V k), .int .i64 (U k * U k + V k * V k)] else [.int .i64 0, .int .i64 0, .int .i64 0]).length = 3 := fun k => by split <;> rfl
 simp only [mb, List.length_append, h]
theorem mb_set (U V : Nat → Int) : ∀ i, i < 3 → List.take (i * 3) (mb U V i) ++ PV.int .i64 (U i) :: .int .i64 (V i) :: .int .i64 (U i * U i + V i * V i) :: List.drop (i * 3 + 3) (mb U V i) = mb U V (i + 1)
 | 0, _ => rfl
 | 1, _ => rfl
 | 2, _ => rfl
 | i + 3, h => by omega
theorem cb_len (C : Nat → CV) (i : Nat) : (cb C i).length = 16 := by
 have h : ∀ k, (if k < i then (C k).cells else [.nil, .nil, .bool false, .nil]).length = 4 := fun k => by split <;> rfl
 simp only [cb, List.length_append, h]
theorem ib_set (X : Nat → Int) : ∀ i, i < 4 → List.take i (ib X i) ++ PV.int .i64 (X i) :: List.drop (i + 1) (ib X i) = ib X (i + 1)
 | 0, _ => rfl
 | 1, _ => rfl
 | 2, _ => rfl
 | 3, _ => rfl
 | i + 4, h => by omega
theorem cb_set (C : Nat → CV) : ∀ i, i < 4 → List.take (i * 4) (cb C i) ++ Po (C i).x :: Po (C i).y :: PV.bool (decide ((C i).d < 0)) :: sls u32 (dig LL (C i).d.natAbs) :: List.drop (i * 4 + 4) (cb C i) = cb C (i + 1)
 | 0, _ => rfl
 | 1, _ => rfl
 | 2, _ => rfl
 | 3, _ => rfl
 | i + 4, h => by omega
theorem mul_bd {a b : Int} (m n : Nat) (ha : -(m : Int) ≤ a ∧ a ≤ m) (hb : -(n : Int) ≤ b ∧ b ≤ n) : -((m * n : Nat) : Int) ≤ a * b ∧ a * b ≤ ((m * n : Nat) : Int) := by
 have h1 : a.natAbs ≤ m := by omega
 have h2 : b.natAbs ≤ n := by omega
 have h3 := Nat.mul_le_mul h1 h2
 rw [← Int.natAbs_mul] at h3
 generalize m * n = k at *
 omega
set_option maxRecDepth 20000 in
set_option maxHeartbeats 8000000 in
theorem PredPlaces_ret (l : List Int) (h : ∀ x ∈ l, -9223372036854775808 ≤ x ∧ x < 9223372036854775808) (hl : l.length < 9223372036854775808) : Ret env.P 3 [sls i64e l] (.bool true) := by
 have bX := cX_bd l
 have bY := cY_bd l
 have hw : ∀ k, k < l.length → Ret env.P 4 [.int .i64 (nth l k), .int .i64 41] (.int .i64 (nth l k % 41)) := fun k hk => Within_ret _ 41 (h _ (nth_mem hk)) (by decide) (by decide)
 have eX : ∀ k, 2 * k + 1 < l.length → cX l k = nth l (2 * k) % 41 - 20 := fun k hk => if_pos hk
 have eY : ∀ k, 2 * k + 1 < l.length → cY l k = nth l (2 * k + 1) % 41 - 20 := fun k hk => if_pos hk
 have zX : ∀ k, ¬ 2 * k + 1 < l.length → cX l k = 0 := fun k hk => if_neg hk
 have zY : ∀ k, ¬ 2 * k + 1 < l.length → cY l k = 0 := fun k hk => if_neg hk
 generalize cX l = X at *
 generalize cY l = Y at *
 have hC : ∀ k, Ret env.P 5 [.int .i64 (X k), .int .i64 (Y k)] (.ag (sv (X k) (Y k)).cells) := fun k => sStill (by have := bX k; omega) (by have := bY k; omega)
 have g : ∀ k, -1000 ≤ X k ∧ X k ≤ 1000 := fun k => by have := bX k; omega
 have g' : ∀ k, -1000 ≤ Y k ∧ Y k ≤ 1000 := fun k => by have := bY k; omega
 have o1 := sOrient (g 0) (g' 0) (g 1) (g' 1) (g 2) (g' 2)
 have o2 := sCircle (g 0) (g' 0) (g 1) (g' 1) (g 2) (g' 2) (g 3) (g' 3)
 have o3 := sFarther (g 0) (g' 0) (g 1) (g' 1) (g 2) (g' 2) (g 3) (g' 3)
 have o4 := sRight (g 0) (g' 0) (g 1) (g' 1)
 have o5 := sAbove (g 0) (g' 0) (g 1) (g' 1)
 have hwk := wakes14_ret
 clear g g'
 obtain ⟨C, hCe⟩ : ∃ C : Nat → CV, C = fun k => sv (X k) (Y k) := ⟨_, rfl⟩
 have hCk : ∀ k, sv (X k) (Y k) = C k := fun k => by rw [hCe]
 clear hCe
 simp only [hCk] at *
 refine ret_of_Wf (E := env) (fun _ => 0) [(0, sls i64e l)] Try.func3 rfl (by kernel_rfl) (by kernel_rfl) (show 1 ≤ 279 by decide) (by simp) ?_
 refine W.sreg (fun K hK => ?_); simp (disch := omega) [gA, wA]; refine W.lv [0, 2] hK fun J j => ?_; clear hK K; simp; refine j _ ?_; clear j J
 refine W.sreg (fun K hK => ?_); simp (disch := omega) [gA, wA]; refine W.lv [0, 2, 3, 4] hK fun J j => ?_; clear hK K; simp; refine j _ ?_; clear j J
 refine W.sreg (fun K hK => ?_); simp (disch := omega) [gA, wA]; refine W.lv [0, 2, 3, 4, 5] hK fun J j => ?_; clear hK K; simp; refine j _ ?_; clear j J
 refine W.seq ?_
 refine W.sreg (fun K hK => ?_); simp (disch := omega) [gA, wA]; refine W.lv [0, 2, 3, 4, 5, 6] hK fun J j => ?_; clear hK K; simp; refine j _ ?_; clear j J
 refine W.block ?_
 refine W.loopG (fun k σ => ∃ (i v3 v4 v5 e3 e4 e5 : Nat) (rows : Pm.Rows) (clk : Nat), σ = ⟨fa [(0, sls i64e l), (2, .bool false), (3, .ptr 3 v3 0 0), (4, .ptr 4 v4 0 0), (5, .ptr 5 v5 0 0), (6, .int .i64 i)], rows, clk⟩ ∧
  rows 3 = some ⟨v3, e3, 4, [ib X i]⟩ ∧ rows 4 = some ⟨v4, e4, 4, [ib Y i]⟩ ∧ rows 5 = some ⟨v5, e5, 16, [cb C i]⟩ ∧ i + k = 4) 4 ?_ ?_
 ·exact ⟨_, .refl, 0, _, _, _, _, _, _, _, _, rfl, by simp [ib]; rfl, by simp [ib]; rfl, by simp [cb]; rfl, by omega⟩
 rintro k _ ⟨i, v3, v4, v5, e3, e4, e5, rows, clk, rfl, hr3, hr4, hr5, hik⟩
 refine W.seq ?_
 refine W.sreg (fun K hK => ?_); simp (disch := omega) [gA, wA]; refine W.lv [0, 2, 3, 4, 5, 6, 16] hK fun J j => ?_; clear hK K; simp; refine j _ ?_; clear j J
 refine W.cond ⟨_, rfl, fun h => ?_, fun h => ?_⟩
 ·have hi : i < 4 := by simp at h; omega
  refine W.skip ?_
  refine W.seq ?_
  refine W.block ?_
  refine W.seqJ (fun σ => ∃ (rows : Pm.Rows) (clk : Nat), σ = ⟨fa [(0, sls i64e l), (2, .bool false), (3, .ptr 3 v3 0 0), (4, .ptr 4 v4 0 0), (5, .ptr 5 v5 0 0), (6, .int .i64 i)], rows, clk⟩ ∧
   rows 3 = some ⟨v3, e3, 4, [ib X (i + 1)]⟩ ∧ rows 4 = some ⟨v4, e4, 4, [ib Y (i + 1)]⟩ ∧ rows 5 = some ⟨v5, e5, 16, [cb C i]⟩) ?_ ?_
  ·refine W.sreg (fun K hK => ?_); simp (disch := omega) [gA, wA]; refine W.lv [0, 2, 3, 4, 5, 6, 24] hK fun J j => ?_; clear hK K; simp; refine j _ ?_; clear j J
   refine W.cond ⟨_, rfl, fun h => ?_, fun h => ?_⟩
   ·have hil : 2 * i + 1 < l.length := by simp at h; omega
    have w1 := hw (2 * i) (by omega)
    have w2 := hw (2 * i + 1) (by omega)
    have y1 := eX i hil
    have y2 := eY i hil
    have lX : (ib X i).length = 4 := rfl
    have lY : (ib Y i).length = 4 := rfl
    have q1 : (2 * (i : Int)).toNat = 2 * i := by omega
    have q2 : (2 * (i : Int) + 1).toNat = 2 * i + 1 := by omega
    have q3 : 2 * i < l.length := by omega
    have b1 := bX i
    have b2 := bY i
    refine W.drw (fun K hK => ?_)
    simp (disch := omega) [gA, wA, q1, q2, q3, hil]
    refine callR w1 ?_
    simp (disch := omega) [gA, wA, q1, q2, q3, hil]
    refine callR w2 ?_
    simp (disch := omega) [gA, wA, q1, q2, q3, hil, hr3, hr4]
    (try (refine stepTxt (of_decide_eq_true (by kernel_rfl)) ?_)); (try simp (maxSteps := 4000000) (disch := omega) [gA, wA, hr3, hr4, hi, lX, lY]); (repeat rw [if_pos (by kernel_rfl)]); (try simp (maxSteps := 4000000) (disch := omega) [gA, wA, hr3, hr4, hi, lX, lY])
    (try (refine stepTxt (of_decide_eq_true (by kernel_rfl)) ?_)); (try simp (maxSteps := 4000000) (disch := omega) [gA, wA, hr3, hr4, hi, lX, lY]); (repeat rw [if_pos (by kernel_rfl)]); (try simp (maxSteps := 4000000) (disch := omega) [gA, wA, hr3, hr4, hi, lX, lY])
    (try (refine stepTxt (of_decide_eq_true (by kernel_rfl)) ?_)); (try simp (maxSteps := 4000000) (disch := omega) [gA, wA, hr3, hr4, hi, lX, lY]); (repeat rw [if_pos (by kernel_rfl)]); (try simp (maxSteps := 4000000) (disch := omega) [gA, wA, hr3, hr4, hi, lX, lY])
    refine hK _ ⟨_, Gh_fa _ [0, 2, 3, 4, 5, 6], _, _, rfl, ?_, ?_, ?_⟩
    ·simp
     rw [← y1]
     exact ib_set X i hi
    ·simp
     rw [← y2]
     exact ib_set Y i hi
    ·simp [hr5]
   ·have hil : ¬ 2 * i + 1 < l.length := by simp at h; omega
    have y1 := zX i hil
    have y2 := zY i hil
    refine W.skip ?_
    refine ⟨_, Gh_fa _ [0, 2, 3, 4, 5, 6], rows, clk, rfl, ?_, ?_, hr5⟩
    ·rw [hr3]
     match i, hi with
     | 0, _ => simp [ib, y1]
     | 1, _ => simp [ib, y1]
     | 2, _ => simp [ib, y1]
     | 3, _ => simp [ib, y1]
    ·rw [hr4]
     match i, hi with
     | 0, _ => simp [ib, y2]
     | 1, _ => simp [ib, y2]
     | 2, _ => simp [ib, y2]
     | 3, _ => simp [ib, y2]
  rintro _ ⟨rows, clk, rfl, hr3, hr4, hr5⟩
  have hCi := hC i
  simp only [CV.cells_def] at hCi
  have gX := ib_get X i hi
  have gY := ib_get Y i hi
  have lC := cb_len C i
  refine W.drw (fun K hK => ?_)
  simp (disch := omega) [gA, wA, hr3, hr4, hr5, hi, gX, gY]
  refine callR hCi ?_
  simp (disch := omega) [gA, wA, hr3, hr4, hr5, hi, gX, gY]
  (try (refine stepTxt (of_decide_eq_true (by kernel_rfl)) ?_)); (try simp (maxSteps := 4000000) (disch := omega) [gA, wA, hr5, hi, lC]); (repeat rw [if_pos (by kernel_rfl)]); (try simp (maxSteps := 4000000) (disch := omega) [gA, wA, hr5, hi, lC])
  refine W.lv [0, 2, 3, 4, 5, 6] hK fun J j => ?_; clear hK K; simp; refine j _ ?_; clear j J
  refine W.reg (fun K hK => ?_); simp (disch := omega) [gA, wA]
  refine hK _ ⟨k - 1, _, Gh_fa _ [0, 2, 3, 4, 5, 6], by omega, i + 1, v3, v4, v5, _, _, _, _, _, rfl, by simp [hr3]; exact rfl, by simp [hr4]; exact rfl, by simp; exact ⟨rfl, cb_set C i hi⟩, by omega⟩
 ·have hi : i = 4 := by simp at h; omega
  subst hi
  refine W.exit ?_; simp only [pX, if_true, if_false, reduceIte, Nat.reduceEqDiff]
  simp [ib] at hr3 hr4
  have x0 := bX 0; have x1 := bX 1; have x2 := bX 2; have x3 := bX 3
  have y0 := bY 0; have y1 := bY 1; have y2 := bY 2; have y3 := bY 3
  obtain ⟨U, hU⟩ : ∃ U : Nat → Int, U = fun k => X k - X 3 := ⟨_, rfl⟩
  obtain ⟨V, hV⟩ : ∃ V : Nat → Int, V = fun k => Y k - Y 3 := ⟨_, rfl⟩
  have p1 := mul_bd (a := X 1 - X 0) (b := Y 2 - Y 0) 40 40 (by omega) (by omega)
  have p2 := mul_bd (a := X 2 - X 0) (b := Y 1 - Y 0) 40 40 (by omega) (by omega)
  have p3 := mul_bd (a := X 3 - X 2) (b := X 3 - X 2) 40 40 (by omega) (by omega)
  have p4 := mul_bd (a := Y 3 - Y 2) (b := Y 3 - Y 2) 40 40 (by omega) (by omega)
  have p5 := mul_bd (a := X 1 - X 0) (b := X 1 - X 0) 40 40 (by omega) (by omega)
  have p6 := mul_bd (a := Y 1 - Y 0) (b := Y 1 - Y 0) 40 40 (by omega) (by omega)
  refine W.sreg (fun K hK => ?_)
  simp (disch := omega) [gA, wA, hr3, hr4]
  refine W.lv [2, 3, 4, 5, 7] hK fun J j => ?_; clear hK K; simp; refine j _ ?_; clear j J
  have e1 : (X 1 - X 0) * (Y 2 - Y 0) - (X 2 - X 0) * (Y 1 - Y 0) = oI (X 0) (Y 0) (X 1) (Y 1) (X 2) (Y 2) := rfl
  have e1b : -9223372036854775808 ≤ oI (X 0) (Y 0) (X 1) (Y 1) (X 2) (Y 2) ∧ oI (X 0) (Y 0) (X 1) (Y 1) (X 2) (Y 2) < 9223372036854775808 := by rw [← e1]; omega
  rw [e1]
  clear e1 p1 p2
  refine W.sreg (fun K hK => ?_); simp (disch := omega) [gA, wA]; refine W.lv [2, 3, 4, 5, 7, 8] hK fun J j => ?_; clear hK K; simp; refine j _ ?_; clear j J
  refine W.seq ?_
  refine W.sreg (fun K hK => ?_); simp (disch := omega) [gA, wA]; refine W.lv [2, 3, 4, 5, 7, 8, 9] hK fun J j => ?_; clear hK K; simp; refine j _ ?_; clear j J
  refine W.block ?_
  refine W.loopG (fun k σ => ∃ (i v8 e8 : Nat) (rows : Pm.Rows) (clk : Nat), σ = ⟨fa [(2, .bool false), (3, .ptr 3 v3 0 0), (4, .ptr 4 v4 0 0), (5, .ptr 5 v5 0 0), (7, .int .i64 (oI (X 0) (Y 0) (X 1) (Y 1) (X 2) (Y 2))), (8, .ptr 8 v8 0 0), (9, .int .i64 i)], rows, clk⟩ ∧
   rows 3 = some ⟨v3, e3, 4, [[.int .i64 (X 0), .int .i64 (X 1), .int .i64 (X 2), .int .i64 (X 3)]]⟩ ∧ rows 4 = some ⟨v4, e4, 4, [[.int .i64 (Y 0), .int .i64 (Y 1), .int .i64 (Y 2), .int .i64 (Y 3)]]⟩ ∧ rows 5 = some ⟨v5, e5, 16, [cb C 4]⟩ ∧ rows 8 = some ⟨v8, e8, 9, [mb U V i]⟩ ∧ i + k = 3) 3 ?_ ?_
  ·exact ⟨_, .refl, 0, _, _, _, _, rfl, by simp [hr3], by simp [hr4], by simp [hr5], by simp [mb]; rfl, by omega⟩
  rintro k _ ⟨i, v8, e8, rows, clk, rfl, hr3, hr4, hr5, hr8, hik⟩
  refine W.seq ?_
  refine W.sreg (fun K hK => ?_); simp (disch := omega) [gA, wA]; refine W.lv [2, 3, 4, 5, 7, 8, 9, 77] hK fun J j => ?_; clear hK K; simp; refine j _ ?_; clear j J
  refine W.cond ⟨_, rfl, fun h => ?_, fun h => ?_⟩
  ·have hi : i < 3 := by simp at h; omega
   have gX := ix_get X i hi
   have gY := ix_get Y i hi
   have xi := bX i
   have yi := bY i
   have hUi : X i - X 3 = U i := by rw [hU]
   have hVi : Y i - Y 3 = V i := by rw [hV]
   refine W.skip ?_
   refine W.seq ?_
   refine W.block ?_
   refine W.sdrw (fun K hK => ?_)
   simp (disch := omega) [gA, wA, hr3, hr4, gX, gY]
   refine W.lv [2, 3, 4, 5, 7, 8, 9, 10, 11] hK fun J j => ?_; clear hK K; simp; refine j _ ?_; clear j J
   rw [hUi, hVi]
   have ui : -((40 : Nat) : Int) ≤ U i ∧ U i ≤ (40 : Nat) := by omega
   have vi : -((40 : Nat) : Int) ≤ V i ∧ V i ≤ (40 : Nat) := by omega
   have m1 := mul_bd _ _ ui ui
   have m2 := mul_bd _ _ vi vi
   have lM := mb_len U V i
   refine W.reg (fun K hK => ?_)
   simp (disch := omega) [gA, wA, hr8, hi, lM]
   refine W.lv [2, 3, 4, 5, 7, 8, 9] hK fun J j => ?_; clear hK K; simp; refine j _ ?_; clear j J
   refine W.reg (fun K hK => ?_); simp (disch := omega) [gA, wA]
   refine hK _ ⟨k - 1, _, Gh_fa _ [2, 3, 4, 5, 7, 8, 9], by omega, i + 1, v8, _, _, _, rfl, by simp [hr3], by simp [hr4], by simp [hr5], by simp; exact ⟨rfl, mb_set U V i hi⟩, by omega⟩
  ·have hi : i = 3 := by simp at h; omega
   subst hi
   refine W.exit ?_; simp only [pX, if_true, if_false, reduceIte, Nat.reduceEqDiff]
   simp [mb] at hr8
   have u : ∀ k, X k - X 3 = U k := fun k => by rw [hU]
   have v : ∀ k, Y k - Y 3 = V k := fun k => by rw [hV]
   rw [u 0, u 1, u 2, v 0, v 1, v 2] at o2
   have a0 : -((40 : Nat) : Int) ≤ U 0 ∧ U 0 ≤ (40 : Nat) := by have := u 0; omega
   have a1 : -((40 : Nat) : Int) ≤ U 1 ∧ U 1 ≤ (40 : Nat) := by have := u 1; omega
   have a2 : -((40 : Nat) : Int) ≤ U 2 ∧ U 2 ≤ (40 : Nat) := by have := u 2; omega
   have b0 : -((40 : Nat) : Int) ≤ V 0 ∧ V 0 ≤ (40 : Nat) := by have := v 0; omega
   have b1 : -((40 : Nat) : Int) ≤ V 1 ∧ V 1 ≤ (40 : Nat) := by have := v 1; omega
   have b2 : -((40 : Nat) : Int) ≤ V 2 ∧ V 2 ≤ (40 : Nat) := by have := v 2; omega
   clear hU hV u v
   have s0 : -((3200 : Nat) : Int) ≤ U 0 * U 0 + V 0 * V 0 ∧ U 0 * U 0 + V 0 * V 0 ≤ (3200 : Nat) := by
    have m1 := mul_bd _ _ a0 a0
    have m2 := mul_bd _ _ b0 b0
    omega
   have s1 : -((3200 : Nat) : Int) ≤ U 1 * U 1 + V 1 * V 1 ∧ U 1 * U 1 + V 1 * V 1 ≤ (3200 : Nat) := by
    have m1 := mul_bd _ _ a1 a1
    have m2 := mul_bd _ _ b1 b1
    omega
   have s2 : -((3200 : Nat) : Int) ≤ U 2 * U 2 + V 2 * V 2 ∧ U 2 * U 2 + V 2 * V 2 ≤ (3200 : Nat) := by
    have m1 := mul_bd _ _ a2 a2
    have m2 := mul_bd _ _ b2 b2
    omega
   have e2 : U 0 * (V 1 * (U 2 * U 2 + V 2 * V 2) - (U 1 * U 1 + V 1 * V 1) * V 2) - V 0 * (U 1 * (U 2 * U 2 + V 2 * V 2) - (U 1 * U 1 + V 1 * V 1) * U 2) + (U 0 * U 0 + V 0 * V 0) * (U 1 * V 2 - V 1 * U 2) = cI (U 0) (V 0) (U 1) (V 1) (U 2) (V 2) := rfl
   generalize U 0 * U 0 + V 0 * V 0 = sa at *
   generalize U 1 * U 1 + V 1 * V 1 = sc at *
   generalize U 2 * U 2 + V 2 * V 2 = se at *
   have r1 := mul_bd _ _ b1 s2
   have r2 := mul_bd _ _ s1 b2
   have r3 := mul_bd 40 256000 a0 (b := V 1 * se - sc * V 2) (by omega)
   have r4 := mul_bd _ _ a1 s2
   have r5 := mul_bd _ _ s1 a2
   have r6 := mul_bd 40 256000 b0 (b := U 1 * se - sc * U 2) (by omega)
   have r7 := mul_bd _ _ a1 b2
   have r8 := mul_bd _ _ b1 a2
   have r9 := mul_bd 3200 3200 s0 (b := U 1 * V 2 - V 1 * U 2) (by omega)
   have e2b : -9223372036854775808 ≤ cI (U 0) (V 0) (U 1) (V 1) (U 2) (V 2) ∧ cI (U 0) (V 0) (U 1) (V 1) (U 2) (V 2) < 9223372036854775808 := by rw [← e2]; omega
   generalize cI (U 0) (V 0) (U 1) (V 1) (U 2) (V 2) = n2 at *
   refine W.sreg (fun K hK => ?_)
   simp (maxSteps := 4000000) (disch := omega) [gA, wA, hr8]
   refine W.lv [2, 3, 4, 5, 7, 12] hK fun J j => ?_; clear hK K; simp; refine j _ ?_; clear j J
   rw [e2]
   clear e2 r1 r2 r3 r4 r5 r6 r7 r8 r9 s0 s1 s2
   have e3 : (X 3 - X 2) * (X 3 - X 2) + (Y 3 - Y 2) * (Y 3 - Y 2) - (X 1 - X 0) * (X 1 - X 0) - (Y 1 - Y 0) * (Y 1 - Y 0) = fI (X 0) (Y 0) (X 1) (Y 1) (X 2) (Y 2) (X 3) (Y 3) := rfl
   have e3b : -9223372036854775808 ≤ fI (X 0) (Y 0) (X 1) (Y 1) (X 2) (Y 2) (X 3) (Y 3) ∧ fI (X 0) (Y 0) (X 1) (Y 1) (X 2) (Y 2) (X 3) (Y 3) < 9223372036854775808 := by rw [← e3]; omega
   generalize fI (X 0) (Y 0) (X 1) (Y 1) (X 2) (Y 2) (X 3) (Y 3) = n3 at *
   refine W.sreg (fun K hK => ?_)
   simp (maxSteps := 4000000) (disch := omega) [gA, wA, hr3, hr4]
   refine W.lv [2, 3, 4, 5, 7, 12, 13] hK fun J j => ?_; clear hK K; simp; refine j _ ?_; clear j J
   rw [e3]
   clear e3
   refine W.sreg (fun K hK => ?_); simp (disch := omega) [gA, wA]; refine W.lv [2, 3, 4, 5, 7, 12, 13, 14] hK fun J j => ?_; clear hK K; simp; refine j _ ?_; clear j J
   generalize oI (X 0) (Y 0) (X 1) (Y 1) (X 2) (Y 2) = n1 at *
   have c1 := pis_ret e1b
   have c2 := pis_ret e2b
   have c3 := pis_ret e3b
   have c4 := pis_ret (n := X 1 - X 0) (by omega)
   have c5 := pis_ret (n := Y 1 - Y 0) (by omega)
   simp only [CV.cells_def] at o1 o2 o3 o4 o5
   rw [show cb C 4 = (C 0).cells ++ ((C 1).cells ++ ((C 2).cells ++ (C 3).cells)) from rfl] at hr5
   simp only [CV.cells_def, List.cons_append, List.nil_append] at hr5
   generalize C 0 = C0 at *
   generalize C 1 = C1 at *
   generalize C 2 = C2 at *
   generalize C 3 = C3 at *
   generalize cutR [n1] = P1 at *
   generalize cutR [n2] = P2 at *
   generalize cutR [n3] = P3 at *
   generalize cutR [X 1 - X 0] = P4 at *
   generalize cutR [Y 1 - Y 0] = P5 at *
   refine W.sdrw (fun K hK => ?_)
   simp (maxSteps := 4000000) (disch := omega) [gA, wA, hr5]
   refine callR o1 ?_
   simp (maxSteps := 4000000) (disch := omega) [gA, wA, hr5]
   refine callR c1 ?_
   simp (maxSteps := 4000000) (disch := omega) [gA, wA, hr5]
   refine callR o2 ?_
   simp (maxSteps := 4000000) (disch := omega) [gA, wA, hr5]
   refine callR c2 ?_
   simp (maxSteps := 4000000) (disch := omega) [gA, wA, hr5]
   refine callR o3 ?_
   simp (maxSteps := 4000000) (disch := omega) [gA, wA, hr5]
   refine callR c3 ?_
   simp (maxSteps := 4000000) (disch := omega) [gA, wA, hr5, hr3, hr4]
   refine callR o4 ?_
   simp (maxSteps := 4000000) (disch := omega) [gA, wA, hr5, hr3, hr4]
   refine callR c4 ?_
   simp (maxSteps := 4000000) (disch := omega) [gA, wA, hr5, hr3, hr4]
   refine callR o5 ?_
   simp (maxSteps := 4000000) (disch := omega) [gA, wA, hr5, hr3, hr4]
   refine callR c5 ?_
   simp (maxSteps := 4000000) (disch := omega) [gA, wA, hr5]
   refine callR hwk ?_
   simp (disch := omega) [gA, wA]
   refine W.lv [2] hK fun J j => ?_; clear hK K; simp; refine j _ ?_; clear j J
   refine W.ret ?_
   simp [go]
end Go.Proofs.Ytdiladmkbpnhoaa
