import Derived.Test.YtmdcopgjjfihnaaGreatLgf
set_option linter.unusedSimpArgs false
set_option linter.unusedVariables false
namespace Go.Proofs.YtmdcopgjjfihnaaGreat
open Go Pm
open ZX hiding N W

/-! ROOTS COUNTED, BY THE PROGRAM. -/
/-- A chain, as the program has it. -/
abbrev CH (c : List ZX) : PV := .rd [sls zp c]
theorem fold_sgs {l : List Int} (hs : ∀ s ∈ l, s = -1 ∨ s = 0 ∨ s = 1) : ∀ i, i ≤ l.length → ((l.take i).foldl vst (0, 0)).2 = -1 ∨ ((l.take i).foldl vst (0, 0)).2 = 0 ∨ ((l.take i).foldl vst (0, 0)).2 = 1
  | 0, _ => .inr (.inl (by simp))
  | i + 1, h => by
    rw [fold_step (by omega)]
    have ih := fold_sgs hs i (by omega)
    have := hs _ (nth_mem (show i < l.length by omega))
    unfold vst
    split
    · exact ih
    · exact this
theorem cturns_ret (g : FuncId) (hw : mutF g = false) (caps : List PV) (hc : caps.all pers = true) (c : List ZX) (sg : ZX → Int) (hl : c.length < 1000000) (hs : ∀ p ∈ c, sg p = -1 ∨ sg p = 0 ∨ sg p = 1) (hg : ∀ p ∈ c, Ret env.P g (Po p.l :: caps) (.int .i64 (sg p))) :
    Ret env.P 131 [CH c, .fn g caps] (.int .i64 (vr (c.map sg))) := by
  have hv : vr (c.map sg) = (((c.map sg).take c.length).foldl vst (0, 0)).1 := by rw [List.take_of_length_le (by simp)]; rfl
  rw [hv]
  have hb : ∀ i, (((c.map sg).take i).foldl vst (0, 0)).1 ≤ i := fun i => by have := vst_le ((c.map sg).take i) (0, 0); simp at this; omega
  have hst := fun i (h : i < (c.map sg).length) => fold_step h
  have hsg := fold_sgs (l := c.map sg) (fun s h => by
    simp only [List.mem_map] at h
    obtain ⟨p, hp, rfl⟩ := h
    exact hs p hp)
  have hln : (c.map sg).length = c.length := by simp
  have hnth : ∀ i, i < c.length → nth (c.map sg) i = sg (nth c i) := fun i hi => by rw [nth_eq (by simpa using hi), nth_eq hi]; simp
  refine ret_of_Wf (E := env) (fun _ => 0) [(0, CH c), (1, .fn g caps)] Tryz.func131 rfl (by kernel_rfl) (by kernel_rfl) (show 2 ≤ 33 by decide) (by simp) ?_
  refine W.sreg (fun K hK => ?_); simp (disch := omega) [gA, wA]; refine W.lv [0, 1] hK fun J j => ?_; clear hK K; simp; refine j _ ?_; clear j J
  refine W.sreg (fun K hK => ?_); simp (disch := omega) [gA, wA]; refine W.lv [0, 1, 5, 6] hK fun J j => ?_; clear hK K; simp; refine j _ ?_; clear j J
  refine W.seq ?_
  refine W.sreg (fun K hK => ?_); simp (disch := omega) [gA, wA]; refine W.lv [1, 5, 6, 13, 14, 15] hK fun J j => ?_; clear hK K; simp; refine j _ ?_; clear j J
  refine W.block ?_
  refine W.loopG (fun k σ => ∃ (i : Nat) (n : Nat) (s : Int) (rows : Pm.Rows) (clk : Nat), σ = ⟨fa [(1, .fn g caps), (5, .int .i64 n), (6, .int .i64 s), (13, sls zp c), (14, .int .i64 c.length), (15, .int .i64 i)], rows, clk⟩ ∧ i + k = c.length ∧ ((c.map sg).take i).foldl vst (0, 0) = (n, s)) c.length ?_ ?_
  · exact ⟨_, .refl, 0, 0, 0, _, _, rfl, by omega, by simp⟩
  rintro k _ ⟨i, n, s, rows, clk, rfl, hik, hF⟩
  have hni : n ≤ i := by have := hb i; rw [hF] at this; exact this
  have hsv := hsg i (by omega)
  rw [hF] at hsv
  simp only at hsv
  refine W.sreg (fun K hK => ?_); simp (disch := omega) [gA, wA]; refine W.lv [1, 5, 6, 13, 14, 15, 16] hK fun J j => ?_; clear hK K; simp; refine j _ ?_; clear j J
  refine W.seq ?_
  refine W.cond ⟨_, rfl, fun h => ?_, fun h => ?_⟩
  · have hi : i < c.length := by simp at h; omega
    have hs1 := hst i (by omega)
    have hgi := hg _ (nth_mem hi)
    have hxv := hs _ (nth_mem hi)
    rw [hF, hnth i hi] at hs1
    generalize hx : sg (nth c i) = x at *
    refine W.skip ?_
    refine W.seq_blockJ (fun σ => ∃ (n' : Nat) (s' : Int) (rows : Pm.Rows) (clk : Nat), σ = ⟨fa [(1, .fn g caps), (5, .int .i64 n'), (6, .int .i64 s'), (13, sls zp c), (14, .int .i64 c.length), (15, .int .i64 i)], rows, clk⟩ ∧ vst (n, s) x = (n', s')) ?_ ?_
    · refine W.sreg (fun K hK => ?_); simp (disch := omega) [gA, wA, hi]; refine W.lv [1, 5, 6, 8, 13, 14, 15] hK fun J j => ?_; clear hK K; simp; refine j _ ?_; clear j J
      refine W.sreg (fun K hK => ?_)
      simp only [mutF] at hw
      simp (disch := omega) [gA, wA, hw, hc]
      refine callR hgi ?_
      simp (disch := omega) [gA, wA]
      refine W.lv [1, 5, 6, 9, 13, 14, 15] hK fun J j => ?_; clear hK K; simp; refine j _ ?_; clear j J
      refine W.seq ?_
      refine W.sreg (fun K hK => ?_); simp (disch := omega) [gA, wA]; refine W.lv [1, 5, 6, 9, 13, 14, 15, 23] hK fun J j => ?_; clear hK K; simp; refine j _ ?_; clear j J
      refine W.cond ⟨_, rfl, fun h => ?_, fun h => ?_⟩
      · have hx0 : x = 0 := by simpa using h
        refine W.exit ?_; simp only [pX, if_true, if_false, reduceIte, Nat.reduceEqDiff]
        exact ⟨_, Gh_fa _ [1, 5, 6, 13, 14, 15], n, s, _, _, rfl, by unfold vst; rw [if_pos hx0]⟩
      · have hx0 : x ≠ 0 := by simpa using h
        refine W.skip ?_
        refine W.seqJ (fun σ => ∃ (n' : Nat) (rows : Pm.Rows) (clk : Nat), σ = ⟨fa [(1, .fn g caps), (5, .int .i64 n'), (9, .int .i64 x), (13, sls zp c), (14, .int .i64 c.length), (15, .int .i64 i)], rows, clk⟩ ∧ vst (n, s) x = (n', x)) ?_ ?_
        · refine W.sreg (fun K hK => ?_); simp (disch := omega) [gA, wA]; refine W.lv [1, 5, 9, 13, 14, 15, 27] hK fun J j => ?_; clear hK K; simp; refine j _ ?_; clear j J
          refine W.cond ⟨_, rfl, fun h => ?_, fun h => ?_⟩
          · have h : s = -x := by simpa using h
            refine W.reg (fun K hK => ?_); simp (disch := omega) [gA, wA]
            exact hK _ ⟨_, Gh_fa _ [1, 5, 9, 13, 14, 15], n + 1, _, _, rfl, by unfold vst; rw [if_neg hx0]; simp only; rw [if_pos ⟨by omega, by omega⟩]⟩
          · have h : ¬ s = -x := by simpa using h
            refine W.skip ?_
            exact ⟨_, Gh_fa _ [1, 5, 9, 13, 14, 15], n, _, _, rfl, by unfold vst; rw [if_neg hx0]; simp only; rw [if_neg (fun hh => by obtain ⟨h1, h2⟩ := hh; omega)]⟩
        rintro _ ⟨n', rows, clk, rfl, hn'⟩
        refine W.reg (fun K hK => ?_); simp (disch := omega) [gA, wA]
        exact hK _ ⟨_, Gh_fa _ [1, 5, 6, 13, 14, 15], n', x, _, _, rfl, hn'⟩
    rintro _ ⟨n', s', rows, clk, rfl, hn'⟩
    refine W.reg (fun K hK => ?_); simp (disch := omega) [gA, wA]
    refine hK _ ⟨k - 1, _, Gh_fa _ [1, 5, 6, 13, 14, 15], by omega, i + 1, n', s', _, _, rfl, by omega, by rw [hs1, hn']⟩
  · have hi : i = c.length := by simp at h; omega
    subst hi
    refine W.exit ?_; simp only [pX, if_true, if_false, reduceIte, Nat.reduceEqDiff]
    refine W.sreg (fun K hK => ?_); simp (disch := omega) [gA, wA]; refine W.lv [4] hK fun J j => ?_; clear hK K; simp; refine j _ ?_; clear j J
    rw [hF]
    refine W.ret ?_
    simp [go]
theorem hm_bdL {s k u : Nat} {n d : Int} (hn : sz LL n ≤ u) (hd : sz LL d ≤ u) (hu : 1 ≤ u) : ∀ {x : List Int}, Bd LL s k x → sz LL (hm n d x).1 ≤ s + x.length * (u + 1) ∧ sz LL (hm n d x).2 ≤ x.length * u + 1
  | [], _ => ⟨by show sz LL 0 ≤ _; rw [show sz LL 0 = 0 by decide]; omega, by show sz LL 1 ≤ _; exact Nat.le_trans (sz_le (k := 1) hLL (by decide)) (by omega)⟩
  | a :: l, h => by
    obtain ⟨h1, h2⟩ := hm_bdL hn hd hu (x := l) ⟨Nat.le_trans (by simp) h.len, fun c hc => h.sz c (by simp [hc])⟩
    have ha := h.sz a (by simp)
    have e : (a :: l).length * u = l.length * u + u := by rw [List.length_cons, Nat.add_mul]; omega
    have e' : (a :: l).length * (u + 1) = l.length * u + l.length + u + 1 := by rw [List.length_cons, Nat.add_mul, Nat.mul_add]; omega
    have e'' : l.length * (u + 1) = l.length * u + l.length := by rw [Nat.mul_add]; omega
    refine ⟨?_, ?_⟩
    · have g1 := sz_mul (b := LL) hLL h1 hn
      have g2 := sz_mul (b := LL) hLL ha h2
      have := sz_add (b := LL) hLL (Nat.le_trans g1 (Nat.le_max_left _ (s + (l.length * u + 1)))) (Nat.le_trans g2 (Nat.le_max_right (s + l.length * (u + 1) + u) _))
      refine Nat.le_trans this ?_
      rw [e', e'']
      omega
    · have := sz_mul (b := LL) hLL h2 hd
      rw [e]
      exact Nat.le_trans this (by omega)
theorem value_ret {x : List Int} {n d : Int} {s k u : Nat} (hx : Bd LL s k x) (hn : sz LL n ≤ u) (hd : sz LL d ≤ u) (hu : 1 ≤ u) (hk : k < 1099511627776) (hB : s + k * (u + 1) + u < 500000000000) : Ret env.P 194 [Po x, I n, I d] (I (hm n d x).1) ∧ Sz (hm n d x).1 := by
  have hl := hx.len
  have hO := Of_ret 1 (by decide) (by decide)
  have bd := fun i => hm_bdL (s := s) (k := k) (x := x.drop i) hn hd hu ⟨by simp; omega, fun c hc => hx.sz c (List.mem_of_mem_drop hc)⟩
  have hle : ∀ i, (x.drop i).length * (u + 1) ≤ k * (u + 1) := fun i => Nat.mul_le_mul_right _ (by simp; omega)
  have hle2 : ∀ i, (x.drop i).length * u ≤ (x.drop i).length * (u + 1) := fun i => Nat.mul_le_mul_left _ (by omega)
  have step : ∀ i, i < x.length → hm n d (x.drop i) = ((hm n d (x.drop (i + 1))).1 * n + nth x i * (hm n d (x.drop (i + 1))).2, (hm n d (x.drop (i + 1))).2 * d) := fun i hi => by
    rw [List.drop_eq_getElem_cons hi, nth_eq hi]; rfl
  have hend : hm n d (x.drop x.length) = (0, 1) := by rw [List.drop_length]; rfl
  have h0 : hm n d (x.drop 0) = hm n d x := rfl
  have hz : Sz (hm n d x).1 := by have := (bd 0).1; have := hle 0; rw [h0] at *; show _ < _; omega
  refine ⟨?_, hz⟩
  have M : ∀ i, i < x.length → Ret env.P 78 [I (hm n d (x.drop (i + 1))).1, I n] (I ((hm n d (x.drop (i + 1))).1 * n)) ∧ Ret env.P 78 [I (nth x i), I (hm n d (x.drop (i + 1))).2] (I (nth x i * (hm n d (x.drop (i + 1))).2)) ∧
      Ret env.P 127 [I ((hm n d (x.drop (i + 1))).1 * n), I (nth x i * (hm n d (x.drop (i + 1))).2)] (I (hm n d (x.drop i)).1) ∧ Ret env.P 78 [I (hm n d (x.drop (i + 1))).2, I d] (I (hm n d (x.drop i)).2) := fun i hi => by
    obtain ⟨b1, b2⟩ := bd (i + 1)
    have l1 := hle (i + 1)
    have l2 := hle2 (i + 1)
    have ha := hx.sz _ (nth_mem hi)
    have g1 := sz_mul (b := LL) hLL b1 hn
    have g2 := sz_mul (b := LL) hLL ha b2
    have zz : ∀ {v : Int}, sz LL v < 1099511627776 → Sz v := fun h => h
    have e := step i hi
    rw [e]
    exact ⟨wMulI (zz (by omega)) (zz (by omega)), wMulI (zz (by omega)) (zz (by omega)), wAddI (zz (by omega)) (zz (by omega)), wMulI (zz (by omega)) (zz (by omega))⟩
  clear bd hle hle2 step hz
  generalize hm n d x = r0 at *
  refine ret_of_Wf (E := env) (fun _ => 0) [(0, Po x), (1, I n), (2, I d)] Tryz.func194 rfl (by kernel_rfl) (by kernel_rfl) (show 3 ≤ 32 by decide) (by simp) ?_
  refine W.sreg (fun K hK => ?_); simp (disch := omega) [gA, wA]; refine W.lv [0, 4, 5, 6] hK fun J j => ?_; clear hK K; simp; refine j _ ?_; clear j J
  refine W.sreg (fun K hK => ?_); simp (disch := omega) [gA, wA]; refine W.lv [0, 4, 5, 6, 7] hK fun J j => ?_; clear hK K; simp; refine j _ ?_; clear j J
  refine W.sreg (fun K hK => ?_)
  simp (disch := omega) [gA, wA]
  refine callR hO ?_
  simp (disch := omega) [gA, wA]
  refine W.lv [0, 4, 5, 6, 7, 8] hK fun J j => ?_; clear hK K; simp; refine j _ ?_; clear j J
  refine W.seq ?_
  refine W.sreg (fun K hK => ?_); simp (disch := omega) [gA, wA]; refine W.lv [0, 4, 5, 6, 7, 8, 9] hK fun J j => ?_; clear hK K; simp; refine j _ ?_; clear j J
  refine W.row (id := 7) (els := [[.bool false, .nil]]) [[.bool (decide ((0 : Int) < 0)), us (dig LL (0 : Int).natAbs)]] (by simp; first | exact ⟨rfl, rfl, rfl⟩ | exact ⟨rfl, rfl⟩ | rfl) ⟨⟨.inl rfl, .inr ⟨rfl, rfl⟩, trivial⟩, trivial⟩ ?_
  refine W.block ?_
  refine W.loopG (fun k σ => ∃ (v4 v5 v6 v7 v8 e4 e5 e6 e7 e8 : Nat) (rows : Pm.Rows) (clk : Nat), σ = ⟨fa [(0, Po x), (4, .ptr 4 v4 0 0), (5, .ptr 5 v5 0 0), (6, .ptr 6 v6 0 0), (7, .ptr 7 v7 0 0), (8, .ptr 8 v8 0 0), (9, .int .i64 ((k : Int) - 1))], rows, clk⟩ ∧ k ≤ x.length ∧
    rows 4 = some ⟨v4, e4, 2, [[.bool (decide (n < 0)), us (dig LL n.natAbs)]]⟩ ∧ rows 5 = some ⟨v5, e5, 2, [[.bool (decide (d < 0)), us (dig LL d.natAbs)]]⟩ ∧ rows 6 = some ⟨v6, e6, 2, [[.bool false, .nil]]⟩ ∧
    rows 7 = some ⟨v7, e7, 2, [[.bool (decide ((hm n d (x.drop k)).1 < 0)), us (dig LL (hm n d (x.drop k)).1.natAbs)]]⟩ ∧
    rows 8 = some ⟨v8, e8, 2, [[.bool (decide ((hm n d (x.drop k)).2 < 0)), us (dig LL (hm n d (x.drop k)).2.natAbs)]]⟩) x.length ?_ ?_
  · exact ⟨_, .refl, _, _, _, _, _, _, _, _, _, _, _, _, rfl, Nat.le_refl _, by simp; (first | exact ⟨rfl, rfl⟩ | rfl), by simp; (first | exact ⟨rfl, rfl⟩ | rfl), by simp; (first | exact ⟨rfl, rfl⟩ | rfl), by rw [hend]; simp; (first | exact ⟨rfl, rfl⟩ | rfl), by rw [hend]; simp; (first | exact ⟨rfl, rfl⟩ | rfl)⟩
  rintro k _ ⟨v4, v5, v6, v7, v8, e4, e5, e6, e7, e8, rows, clk, rfl, hkl, hr4, hr5, hr6, hr7, hr8⟩
  refine W.seq ?_
  refine W.sreg (fun K hK => ?_); simp (disch := omega) [gA, wA]; refine W.lv [0, 4, 5, 6, 7, 8, 9, 15] hK fun J j => ?_; clear hK K; simp; refine j _ ?_; clear j J
  refine W.cond ⟨_, rfl, fun h => ?_, fun h => ?_⟩
  · have hk0 : 0 < k := by simp at h; omega
    obtain ⟨k, rfl⟩ : ∃ j, k = j + 1 := ⟨k - 1, by omega⟩
    obtain ⟨m1, m2, m3, m4⟩ := M k (by omega)
    generalize hm n d (x.drop (k + 1)) = A at *
    have e1 : (((k + 1 : Nat) : Int) - 1).toNat = k := by omega
    refine W.skip ?_
    refine W.seq ?_
    refine W.block ?_
    refine W.sdrw (fun K hK => ?_)
    simp (disch := omega) [gA, wA, hr4, hr7]
    refine callR m1 ?_
    simp (disch := omega) [gA, wA, hr8]
    refine callR m2 ?_
    simp (disch := omega) [gA, wA]
    refine callR m3 ?_
    simp (disch := omega) [gA, wA, hr7]
    (try (refine stepTxt (by first | kernel_rfl | (refine ⟨?_, ?_⟩ <;> kernel_rfl) | (refine ⟨?_, ?_, ?_⟩ <;> kernel_rfl) | (refine ⟨?_, ?_, ?_, ?_⟩ <;> kernel_rfl) | (refine ⟨?_, ?_, ?_, ?_, ?_⟩ <;> kernel_rfl)) ?_)); (try simp (maxSteps := 4000000) (disch := omega) [gA, wA, hr7]); (repeat rw [if_pos (by kernel_rfl)]); (try simp (maxSteps := 4000000) (disch := omega) [gA, wA, hr7])
    refine W.lv [0, 4, 5, 6, 7, 8, 9] hK fun J j => ?_; clear hK K; simp; refine j _ ?_; clear j J
    refine W.reg (fun K hK => ?_)
    simp (disch := omega) [gA, wA, hr8, hr5]
    refine callR m4 ?_
    simp (disch := omega) [gA, wA, hr8]
    refine W.lv [0, 4, 5, 6, 7, 8, 9] hK fun J j => ?_; clear hK K; simp; refine j _ ?_; clear j J
    refine W.reg (fun K hK => ?_); simp (disch := omega) [gA, wA]
    refine hK _ ⟨k, _, Gh_fa _ [0, 4, 5, 6, 7, 8, 9], by omega, v4, v5, v6, v7, v8, _, _, _, _, _, _, _, rfl, by omega, by simp [hr4]; exact rfl, by simp [hr5]; exact rfl, by simp [hr6]; exact rfl, by simp; exact rfl, by simp; exact rfl⟩
  · have hk0 : k = 0 := by simp at h; omega
    subst hk0
    rw [h0] at hr7
    refine W.exit ?_; simp only [pX, if_true, if_false, reduceIte, Nat.reduceEqDiff]
    refine W.sreg (fun K hK => ?_); simp (disch := omega) [gA, wA, hr7, hr6]; refine W.lv [6] hK fun J j => ?_; clear hK K; simp; refine j _ ?_; clear j J
    refine W.ret ?_
    simp [go]
theorem cmp3_zero (v : Int) : cmp3 v 0 = v.sign := by
  rcases Int.lt_trichotomy v 0 with h | h | h
  · rw [Int.sign_eq_neg_one_of_neg h, cmp3_lt h]
  · subst h; decide
  · rw [Int.sign_eq_one_of_pos h, cmp3_gt h]
theorem pSign_ret {x : List Int} {n d : Int} {s k u : Nat} (hx : Bd LL s k x) (cx : Cn x) (hn : sz LL n ≤ u) (hd : sz LL d ≤ u) (hu : 1 ≤ u) (hk : k < 1099511627774) (hu2 : u < 500000000000) (hB : s + k * (u + 1) + u < 500000000000) {q : Rat} (hq : qmk n d = q) (sq : sz LL q.num ≤ u ∧ sz LL (q.den : Int) ≤ u) : Ret env.P 133 [Po x, T2 n d] (.int .i64 (sgA x q.num q.den)) := by
  have p1 := plain_ret (n := n) (d := d) (Nat.lt_of_le_of_lt hn (by omega)) (Nat.lt_of_le_of_lt hd (by omega))
  rw [hq] at p1
  have n1 := pNormI_ret (x := x) (PB.of hx (by omega) (by omega))
  rw [show cutR x = x from cx] at n1
  obtain ⟨hV, hz⟩ := value_ret hx sq.1 sq.2 hu (by omega) hB
  have c1 := wCmpI (x := (hm q.num q.den x).1) (y := 0) hz (show sz LL 0 < _ by decide)
  rw [cmp3_zero, show (hm q.num q.den x).1.sign = sgA x q.num q.den from rfl] at c1
  replace p1 : Ret env.P 193 [T2 n d] (T2 q.num q.den) := p1
  generalize sgA x q.num q.den = r at *
  generalize (hm q.num q.den x).1 = v at *
  generalize q.num = qn at *
  generalize (q.den : Int) = qd at *
  refine ret_of_Wf (E := env) (fun _ => 0) [(0, Po x), (1, T2 n d)] Tryz.func133 rfl (by kernel_rfl) (by kernel_rfl) (show 2 ≤ 16 by decide) (by simp) ?_
  refine W.sreg (fun K hK => ?_); simp (disch := omega) [gA, wA]; refine W.lv [0, 3] hK fun J j => ?_; clear hK K; simp; refine j _ ?_; clear j J
  refine W.sreg (fun K hK => ?_)
  simp (disch := omega) [gA, wA]
  refine callR p1 ?_
  simp (disch := omega) [gA, wA]
  refine W.lv [0, 3] hK fun J j => ?_; clear hK K; simp; refine j _ ?_; clear j J
  refine W.sdrw (fun K hK => ?_)
  simp (disch := omega) [gA, wA]
  refine callR n1 ?_
  simp (disch := omega) [gA, wA]
  refine callR hV ?_
  simp (disch := omega) [gA, wA]
  refine callR c1 ?_
  simp (disch := omega) [gA, wA]
  refine W.lv [4] hK fun J j => ?_; clear hK K; simp; refine j _ ?_; clear j J
  refine W.ret ?_
  simp [go]
end Go.Proofs.YtmdcopgjjfihnaaGreat
