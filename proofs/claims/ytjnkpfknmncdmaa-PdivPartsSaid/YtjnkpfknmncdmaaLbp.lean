import Derived.Test.YtjnkpfknmncdmaaLbo
set_option linter.unusedSimpArgs false
set_option linter.unusedVariables false
namespace Go.Proofs.Ytjnkpfknmncdmaa
open Go Pm

theorem gcdL_cut (x : List Int) : gcdL (cutR x) = gcdL x := by
  refine Nat.dvd_antisymm (dvd_gcdL (Dv.mem fun i => ?_)) (dvd_gcdL (Dv.mem fun i => ?_))
  · rw [← nth_cutR]; exact Dv.of (gcdL_dvd _) i
  · rw [nth_cutR]; exact Dv.of (gcdL_dvd _) i
theorem ContentG_ret (a : RP) {s n : Nat} (h : Sm n s a) (hs : s < 1099511627774) (hn : n < 1099511627774) : Ret env.P 46 [.sl [[Pg a]]] (I (gcdL (cfs a))) := by
  have := Content_ret [a] s hs (fun p hp c hc => by
    simp only [List.mem_singleton] at hp
    subst hp
    exact h.ok c hc) (by simp) (by have := h.len; simp; omega)
  have e : ([a].flatten.map gv) = a.map gv := by simp
  rw [e, ← gcdL_cut] at this
  exact this
theorem wAbsI {x : Int} (hx : Sz x) : Ret env.P 57 [I x] (I x.natAbs) := by
  have := wAbs_ret (decide (x < 0)) (dig LL x.natAbs) hx.lok
  rwa [V_digA] at this
theorem prv_bd {s n : Nat} {x : List Int} (h : Bd LL s n x) : Bd LL s n (prv x) := Bd.cut ⟨by simpa using h.len, fun c hc => by
  simp only [List.mem_map] at hc
  obtain ⟨v, hv, rfl⟩ := hc
  exact Nat.le_trans (exq_sz _ _) (h.sz v hv)⟩

theorem PdivParts_ret (a0 b0 : RP) (ha0 : InP a0) (hb0 : InP b0) : Ret env.P 13 [Pg a0, Pg b0] (.bool true) := by
  have k1 := Cut_ret a0 7 2 ha0 (by decide) (by decide)
  have k2 := Cut_ret b0 6 2 hb0 (by decide) (by decide)
  have sa := Sm.keep ha0 7 2
  have sb := Sm.keep hb0 6 2
  generalize keepP 7 2 a0 = a at *
  generalize keepP 6 2 b0 = b at *
  refine ret_of_Wf (E := env) (fun _ => 0) [(0, Pg a0), (1, Pg b0)] Try.func13 rfl (by kernel_rfl) (by kernel_rfl) (show 2 ≤ 92 by decide) (by simp) ?_
  refine W.sreg (fun K hK => ?_); simp (disch := omega) [gA, wrap_i64, wrap_u64, wrap_u32, Int.tdiv_eq_ediv_of_nonneg, Int.tmod_eq_emod_of_nonneg]; refine hK _ (W.liveK [0, 1] fun K2 hK2 => ?_); clear hK K; simp; refine hK2 _ ?_; clear hK2 K2
  refine W.sreg (fun K hK => ?_)
  simp (disch := omega) [gA, wrap_i64, wrap_u64, wrap_u32, Int.tdiv_eq_ediv_of_nonneg, Int.tmod_eq_emod_of_nonneg]
  refine callR k1 ?_
  simp (disch := omega) [gA, wrap_i64, wrap_u64, wrap_u32, Int.tdiv_eq_ediv_of_nonneg, Int.tmod_eq_emod_of_nonneg]
  refine hK _ (W.liveK [0, 1, 5] fun K2 hK2 => ?_); clear hK K; simp; refine hK2 _ ?_; clear hK2 K2
  refine W.sreg (fun K hK => ?_)
  simp (disch := omega) [gA, wrap_i64, wrap_u64, wrap_u32, Int.tdiv_eq_ediv_of_nonneg, Int.tmod_eq_emod_of_nonneg]
  refine callR k2 ?_
  simp (disch := omega) [gA, wrap_i64, wrap_u64, wrap_u32, Int.tdiv_eq_ediv_of_nonneg, Int.tmod_eq_emod_of_nonneg]
  refine hK _ (W.liveK [0, 1, 5, 6] fun K2 hK2 => ?_); clear hK K; simp; refine hK2 _ ?_; clear hK2 K2
  have pa := sa.pok (by decide) (by decide)
  have pb := sb.pok (by decide) (by decide)
  have bx : Bd LL 2 7 (cfs a) := sa.bd.cut
  have by' : Bd LL 2 6 (cfs b) := sb.bd.cut
  have cx : Cn (cfs a) := Cn.cut _
  have cy : Cn (cfs b) := Cn.cut _
  have hP := Primitive_ret a pa sa.bd (by decide) (by decide)
  have gA := ContentG_ret a sa (by decide) (by decide)
  have gB := ContentG_ret b sb (by decide) (by decide)
  have hsc : pscale (prv (cfs a)) (pcn (cfs a)) = cfs a := by
    by_cases hx : cfs a = []
    · rw [hx]; decide
    · exact prv_scale cx hx
  have bp := prv_bd bx
  have hcs : sz LL (pcn (cfs a)) ≤ 2 := by
    by_cases hx : cfs a = []
    · rw [hx]; decide
    · have := gcdL_sz (s := 2) bx.sz cx hx
      unfold pcn; split
      · rw [sz_neg]; exact this
      · exact this
  have m0 := pScaleI_ret (x := prv (cfs a)) (c := pcn (cfs a)) (PB.of bp (by decide) (by decide)) (Nat.lt_of_le_of_lt hcs (by decide))
  rw [hsc] at m0
  have hs2 := pSame_ret ((cfs a).map rw') a (PB.of bx (by decide) (by decide)).pok pa
  rw [map_gv_rw, ← Po_eq, show cutR (cfs a) = cutR (a.map gv) from Cn.cut _, decide_eq_true rfl] at hs2
  have bab : Bd LL 11 13 (pmul (a.map gv) (b.map gv)) := (sa.bd.pmul hLL sb.bd).mono (by decide) (by decide)
  have m1 := pMul_ret a b pa pb 2 2 7 6 sa.bd sb.bd (by decide)
  have e1 : pmul (a.map gv) (b.map gv) = pmul (cfs a) (cfs b) := Cn.ext (Cn.pmul _ _) (Cn.pmul _ _) fun t => by rw [V_pmul, V_pmul, V_cfsB, V_cfsB]
  rw [e1] at m1 bab
  have gAB := ContentI_ret (pmul (cfs a) (cfs b)) (PD.of bab (by decide) (by decide))
  have hLp := LeadI_ret (x := prv (cfs a)) (PB.of bp (by decide) (by decide)) (Cn.cut _)
  have gP := ContentI_ret (prv (cfs a)) (PD.of bp (by decide) (by decide))
  have hab0 := pcn_abs (cfs a)
  have hAb := wAbsI (x := pcn (cfs a)) (Nat.lt_of_le_of_lt hcs (by decide))
  rw [hab0] at hAb
  have hpl : cfs a ≠ [] → 0 < lead (prv (cfs a)) := prv_lead cx
  have hpg : cfs a ≠ [] → gcdL (prv (cfs a)) = 1 := prv_gcd cx
  have hgm : cfs a ≠ [] → cfs b ≠ [] → gcdL (pmul (cfs a) (cfs b)) = gcdL (cfs a) * gcdL (cfs b) := gcdL_mul cx cy
  have hn1 : cfs a = [] → pmul (cfs a) (cfs b) = [] := fun h => by rw [h]; rfl
  have hn2 : cfs b = [] → pmul (cfs a) (cfs b) = [] := fun h => by rw [h]; exact pmul_nil _
  have gxs : cfs a ≠ [] → sz LL (gcdL (cfs a) : Int) ≤ 2 := fun h => gcdL_sz (s := 2) bx.sz cx h
  have gys : cfs b ≠ [] → sz LL (gcdL (cfs b) : Int) ≤ 2 := fun h => gcdL_sz (s := 2) by'.sz cy h
  clear k1 k2 e1 sa sb hsc hcs bp hab0 bab
  generalize pmul (cfs a) (cfs b) = ab at *
  generalize pcn (cfs a) = c at *
  generalize prv (cfs a) = p at *
  generalize cfs a = x at *
  generalize cfs b = y at *
  refine W.sreg (fun K hK => ?_)
  simp (disch := omega) [gA, wrap_i64, wrap_u64, wrap_u32, Int.tdiv_eq_ediv_of_nonneg, Int.tmod_eq_emod_of_nonneg]
  refine callR hP ?_
  simp (disch := omega) [gA, wrap_i64, wrap_u64, wrap_u32, Int.tdiv_eq_ediv_of_nonneg, Int.tmod_eq_emod_of_nonneg]
  refine hK _ (W.liveK [0, 1, 5, 6, 7, 8] fun K2 hK2 => ?_); clear hK K; simp; refine hK2 _ ?_; clear hK2 K2
  refine W.seq ?_
  refine W.sregJ (fun σ => ∃ (v7 : Nat) (rows : Pm.Rows) (clk : Nat), σ = ⟨fa [(0, Pg a), (1, Pg b), (5, PI x), (6, PI y), (7, .ptr 7 v7 0 0), (48, .bool false)], rows, clk⟩ ∧ rows 7 = some ⟨v7, 68, 2, [ie c]⟩) (fun K hK => ?_) ?_
  · simp (disch := omega) [gA, wrap_i64, wrap_u64, wrap_u32, Int.tdiv_eq_ediv_of_nonneg, Int.tmod_eq_emod_of_nonneg]
    refine callR m0 ?_
    simp (disch := omega) [gA, wrap_i64, wrap_u64, wrap_u32, Int.tdiv_eq_ediv_of_nonneg, Int.tmod_eq_emod_of_nonneg]
    refine callR hs2 ?_
    by_cases hx : x = []
    · have hx0 : x.length = 0 := by rw [hx]; rfl
      simp (disch := omega) [gA, wrap_i64, wrap_u64, wrap_u32, Int.tdiv_eq_ediv_of_nonneg, Int.tmod_eq_emod_of_nonneg, hx0]
      refine hK _ _ (Gh_fa _ [0, 1, 5, 6, 7, 48]) ⟨_, _, _, rfl, ?_⟩ <;> simp
    · have hx0 : 0 < x.length := List.length_pos_iff.2 hx
      have s1 : Sz 1 := Nat.lt_of_le_of_lt (sz_le hLL (k := 1) (by decide)) (by decide)
      have gp1 := hpg hx
      rw [gp1] at gP
      have hO : Ret env.P 55 [.int .i64 1] (I 1) := Of_ret 1 (by decide) (by decide)
      have hC := wCmpI s1 s1
      rw [cmp3_eq] at hC
      simp (disch := omega) [gA, wrap_i64, wrap_u64, wrap_u32, Int.tdiv_eq_ediv_of_nonneg, Int.tmod_eq_emod_of_nonneg, hx0]
      refine callR hLp ?_
      simp (disch := omega) [gA, wrap_i64, wrap_u64, wrap_u32, Int.tdiv_eq_ediv_of_nonneg, Int.tmod_eq_emod_of_nonneg]
      refine callR (SignI_pos (hpl hx)) ?_
      simp (disch := omega) [gA, wrap_i64, wrap_u64, wrap_u32, Int.tdiv_eq_ediv_of_nonneg, Int.tmod_eq_emod_of_nonneg]
      refine callR gP ?_
      simp (disch := omega) [gA, wrap_i64, wrap_u64, wrap_u32, Int.tdiv_eq_ediv_of_nonneg, Int.tmod_eq_emod_of_nonneg]
      refine callR hO ?_
      simp (disch := omega) [gA, wrap_i64, wrap_u64, wrap_u32, Int.tdiv_eq_ediv_of_nonneg, Int.tmod_eq_emod_of_nonneg]
      refine callR hC ?_
      simp (disch := omega) [gA, wrap_i64, wrap_u64, wrap_u32, Int.tdiv_eq_ediv_of_nonneg, Int.tmod_eq_emod_of_nonneg]
      refine hK _ _ (Gh_fa _ [0, 1, 5, 6, 7, 48]) ⟨_, _, _, rfl, ?_⟩ <;> simp
  rintro _ ⟨v7, rows, clk, rfl, hr7⟩
  refine W.cond ⟨_, rfl, fun h => ?_, fun h => ?_⟩   -- t48
  · cases h
  clear h
  refine W.skip ?_
  refine W.seq ?_
  by_cases hxy : x = [] ∨ y = []
  · have hab : ab = [] := hxy.elim hn1 hn2
    subst hab
    refine W.sregJ (fun σ => ∃ (rows : Pm.Rows) (clk : Nat), σ = ⟨fa [(0, Pg a), (1, Pg b), (7, .ptr 7 v7 0 0), (56, .bool true)], rows, clk⟩) (fun K hK => ?_) ?_
    · by_cases hx : x = []
      · have hx0 : x.length = 0 := by rw [hx]; rfl
        simp (disch := omega) [gA, wrap_i64, wrap_u64, wrap_u32, Int.tdiv_eq_ediv_of_nonneg, Int.tmod_eq_emod_of_nonneg, hx0]
        exact hK _ _ (Gh_fa _ [0, 1, 7, 56]) ⟨_, _, rfl⟩
      · have hy : y = [] := hxy.resolve_left hx
        have hx0 : ((x.length : Int) == 0) = false := by have := List.length_pos_iff.2 hx; simp; exact hx
        have hy0 : y.length = 0 := by rw [hy]; rfl
        simp (disch := omega) [gA, wrap_i64, wrap_u64, wrap_u32, Int.tdiv_eq_ediv_of_nonneg, Int.tmod_eq_emod_of_nonneg, hx0, hy0]
        exact hK _ _ (Gh_fa _ [0, 1, 7, 56]) ⟨_, _, rfl⟩
    rintro _ ⟨rows, clk, rfl⟩
    refine W.cond ⟨_, rfl, fun h => ?_, fun h => ?_⟩   -- t56
    · refine W.sregJ (fun σ => ∃ (rows : Pm.Rows) (clk : Nat), σ = ⟨fa [(4, .bool true)], rows, clk⟩) (fun K hK => ?_) ?_
      · simp (disch := omega) [gA, wrap_i64, wrap_u64, wrap_u32, Int.tdiv_eq_ediv_of_nonneg, Int.tmod_eq_emod_of_nonneg]
        refine callR m1 ?_
        simp (disch := omega) [gA, wrap_i64, wrap_u64, wrap_u32, Int.tdiv_eq_ediv_of_nonneg, Int.tmod_eq_emod_of_nonneg]
        refine callR gAB ?_
        simp (disch := omega) [gA, wrap_i64, wrap_u64, wrap_u32, Int.tdiv_eq_ediv_of_nonneg, Int.tmod_eq_emod_of_nonneg]
        refine callR ZeroI_zero ?_
        simp (disch := omega) [gA, wrap_i64, wrap_u64, wrap_u32, Int.tdiv_eq_ediv_of_nonneg, Int.tmod_eq_emod_of_nonneg]
        refine callR wakes6_ret ?_
        simp (disch := omega) [gA, wrap_i64, wrap_u64, wrap_u32, Int.tdiv_eq_ediv_of_nonneg, Int.tmod_eq_emod_of_nonneg]
        exact hK _ _ (Gh_fa _ [4]) ⟨_, _, rfl⟩
      rintro _ ⟨rows, clk, rfl⟩
      refine W.ret ?_
      simp [go]
    · cases h
  have hx : x ≠ [] := fun h => hxy (Or.inl h)
  have hy : y ≠ [] := fun h => hxy (Or.inr h)
  have hx0 : ((x.length : Int) == 0) = false := by simp; exact hx
  have hy0 : ((y.length : Int) == 0) = false := by simp; exact hy
  have gx2 := gxs hx
  have gy2 := gys hy
  have hM := wMulI (x := (gcdL x : Int)) (y := (gcdL y : Int)) (Nat.lt_of_le_of_lt gx2 (by decide)) (Nat.lt_of_le_of_lt gy2 (by decide))
  have hgg := hgm hx hy
  have hC1 := wCmpI (x := (gcdL ab : Int)) (y := (gcdL x : Int) * gcdL y) (by
    rw [hgg, Int.natCast_mul]
    exact Nat.lt_of_le_of_lt (sz_mul hLL gx2 gy2) (by decide)) (Nat.lt_of_le_of_lt (sz_mul hLL gx2 gy2) (by decide))
  rw [show cmp3 (gcdL ab : Int) ((gcdL x : Int) * gcdL y) = 0 by rw [hgg, Int.natCast_mul]; exact cmp3_eq _] at hC1
  have hC2 := wCmpI (x := (gcdL x : Int)) (y := (gcdL x : Int)) (Nat.lt_of_le_of_lt gx2 (by decide)) (Nat.lt_of_le_of_lt gx2 (by decide))
  rw [cmp3_eq] at hC2
  clear hgg
  generalize (gcdL x : Int) * gcdL y = gxy at *
  generalize (gcdL ab : Int) = gab at *
  generalize (gcdL x : Int) = gx at *
  generalize (gcdL y : Int) = gy at *
  refine W.sregJ (fun σ => ∃ (rows : Pm.Rows) (clk : Nat), σ = ⟨fa [(0, Pg a), (1, Pg b), (7, .ptr 7 v7 0 0), (56, .bool false)], rows, clk⟩ ∧ rows 7 = some ⟨v7, 68, 2, [ie c]⟩) (fun K hK => ?_) ?_
  · simp (disch := omega) [gA, wrap_i64, wrap_u64, wrap_u32, Int.tdiv_eq_ediv_of_nonneg, Int.tmod_eq_emod_of_nonneg, hx0, hy0]
    exact hK _ _ (Gh_fa _ [0, 1, 7, 56]) ⟨_, _, rfl, hr7⟩
  clear hr7 rows clk
  rintro _ ⟨rows, clk, rfl, hr7⟩
  refine W.cond ⟨_, rfl, fun h => ?_, fun h => ?_⟩   -- t56
  · cases h
  refine W.skip ?_
  refine W.sregJ (fun σ => ∃ (rows : Pm.Rows) (clk : Nat), σ = ⟨fa [(4, .bool true)], rows, clk⟩) (fun K hK => ?_) ?_
  · simp (disch := omega) [gA, wrap_i64, wrap_u64, wrap_u32, Int.tdiv_eq_ediv_of_nonneg, Int.tmod_eq_emod_of_nonneg]
    refine callR m1 ?_
    simp (disch := omega) [gA, wrap_i64, wrap_u64, wrap_u32, Int.tdiv_eq_ediv_of_nonneg, Int.tmod_eq_emod_of_nonneg]
    refine callR gAB ?_
    simp (disch := omega) [gA, wrap_i64, wrap_u64, wrap_u32, Int.tdiv_eq_ediv_of_nonneg, Int.tmod_eq_emod_of_nonneg]
    refine callR gA ?_
    simp (disch := omega) [gA, wrap_i64, wrap_u64, wrap_u32, Int.tdiv_eq_ediv_of_nonneg, Int.tmod_eq_emod_of_nonneg]
    refine callR gB ?_
    simp (disch := omega) [gA, wrap_i64, wrap_u64, wrap_u32, Int.tdiv_eq_ediv_of_nonneg, Int.tmod_eq_emod_of_nonneg]
    refine callR hM ?_
    simp (disch := omega) [gA, wrap_i64, wrap_u64, wrap_u32, Int.tdiv_eq_ediv_of_nonneg, Int.tmod_eq_emod_of_nonneg]
    refine callR hC1 ?_
    simp (disch := omega) [gA, wrap_i64, wrap_u64, wrap_u32, Int.tdiv_eq_ediv_of_nonneg, Int.tmod_eq_emod_of_nonneg, hr7]
    refine callR hAb ?_
    simp (disch := omega) [gA, wrap_i64, wrap_u64, wrap_u32, Int.tdiv_eq_ediv_of_nonneg, Int.tmod_eq_emod_of_nonneg]
    refine callR gA ?_
    simp (disch := omega) [gA, wrap_i64, wrap_u64, wrap_u32, Int.tdiv_eq_ediv_of_nonneg, Int.tmod_eq_emod_of_nonneg]
    refine callR hC2 ?_
    simp (disch := omega) [gA, wrap_i64, wrap_u64, wrap_u32, Int.tdiv_eq_ediv_of_nonneg, Int.tmod_eq_emod_of_nonneg]
    refine callR wakes6_ret ?_
    simp (disch := omega) [gA, wrap_i64, wrap_u64, wrap_u32, Int.tdiv_eq_ediv_of_nonneg, Int.tmod_eq_emod_of_nonneg]
    exact hK _ _ (Gh_fa _ [4]) ⟨_, _, rfl⟩
  rintro _ ⟨rows, clk, rfl⟩
  refine W.ret ?_
  simp [go]
end Go.Proofs.Ytjnkpfknmncdmaa
