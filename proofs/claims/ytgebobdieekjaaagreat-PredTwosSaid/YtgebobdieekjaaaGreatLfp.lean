import Derived.Test.YtgebobdieekjaaaGreatLfo
import Derived.Test.YtgebobdieekjaaaGreatLfj
set_option linter.unusedSimpArgs false
set_option linter.unusedVariables false
namespace Go.Proofs.YtgebobdieekjaaaGreat
open Go Pm

/-! POINTS THAT ARE HANDED IN. -/
theorem opn_Curve : Opn Tryz.prog 64 (fun ps => ∃ c : RC, ps = c.cells ∧ InP c.x ∧ InP c.y ∧ InL c.l) :=
  (Opn.struct (fs := [⟨ "X", 27, 0, false, "", "", 0⟩, ⟨ "Y", 27, 1, false, "", "", 24⟩, ⟨ "D", 60, 2, false, "", "", 48⟩]) (Rs := [fun ps => ∃ p : RP, ps = pe p ∧ InP p, fun ps => ∃ p : RP, ps = pe p ∧ InP p, fun ps => ∃ c : Bool × List Int, ps = ge c ∧ InL c.2]) (by kernel_rfl)
    ⟨rfl, opn_Poly, by kernel_rfl, opn_Poly, by kernel_rfl, opn_Int, by show (_ : Nat) = _; kernel_rfl⟩).mono fun ps h => by
    simp only [Each] at h
    obtain ⟨a, b, rfl, ⟨x, rfl, hx⟩, a', b', rfl, ⟨y, rfl, hy⟩, a'', b'', rfl, ⟨d, rfl, hd⟩, rfl⟩ := h
    exact ⟨⟨x, y, d.1, d.2⟩, rfl, hx, hy, hd⟩
theorem opn_Point : Opn Tryz.prog 119 (fun ps => ∃ p : PT, ps = ptc p ∧ p.In) :=
  (Opn.struct (fs := [⟨ "Curve", 64, 0, true, "", "", 0⟩, ⟨ "Id", 3, 4, false, "", "", 80⟩]) (Rs := [fun ps => ∃ c : RC, ps = c.cells ∧ InP c.x ∧ InP c.y ∧ InL c.l, fun ps => ∃ n : Int, ps = [.int .i64 n] ∧ (IntKind.min .i64) ≤ n ∧ n ≤ (IntKind.max .i64)]) (by kernel_rfl)
    ⟨rfl, opn_Curve, by kernel_rfl, Opn.int .i64 (by kernel_rfl), by show (_ : Nat) = _; kernel_rfl⟩).mono fun ps h => by
    simp only [Each] at h
    obtain ⟨a, b, rfl, ⟨c, rfl, hx, hy, hd⟩, a', b', rfl, ⟨n, rfl, hn⟩, rfl⟩ := h
    exact ⟨⟨c, n⟩, rfl, hx, hy, hd.lim, hd.len⟩
theorem arg_Points : OpnA Tryz.prog 62 (fun q => ∃ l : List PT, q = sls ptc l ∧ (∀ p ∈ l, p.In) ∧ l.length < 9223372036854775808) :=
  (OpnA.slice (e := 119) (by kernel_rfl) (by rw [show Tryz.prog.cellsOf 119 = 5 by kernel_rfl]; decide) opn_Point).mono fun q ⟨l, h1, h2, h3⟩ => by
    obtain ⟨m, rfl, hm⟩ := maps (g := ptc) (Q := PT.In) (fun ps h => h) h2
    exact ⟨m, h1, hm, by rw [List.length_map] at h3; simp only [maxLen] at h3; omega⟩

/-! LAW 14: THREE, TWO. -/
theorem Sz31 {c : RC} (h : c.Small 3 1) : c.nc.Sz 32 3 := by
  obtain ⟨x, y, d, _⟩ := h.bd2
  exact ⟨x, y, d, by decide, by decide, by decide⟩
set_option maxHeartbeats 2000000 in
theorem PredThrees_ret (l : List PT) (h : ∀ p ∈ l, p.In) (hl : l.length < 9223372036854775808) : Ret env.P 9 [sls ptc l] (.bool true) := by
  have F := four_ret l h hl
  have k0 := fourC_small h 0
  have k1 := fourC_small h 1
  have k2 := fourC_small h 2
  generalize fourC l 0 = c0 at *
  generalize fourC l 1 = c1 at *
  generalize fourC l 2 = c2 at *
  generalize fourC l 3 = c3 at *
  have o1 := pOrient_ret k0.ok k1.ok k2.ok (by decide) (by decide) (by decide)
  have o2 := Orient12_ret c0.nc_OK c1.nc_OK c2.nc_OK (Sz31 k0) (Sz31 k1) (Sz31 k2) (by decide)
  have e := dcol_drow (k := 3) (M := [rowI c0.nc, rowI c1.nc, rowI c2.nc]) rfl (fun r hr => by
    simp only [List.mem_cons, List.not_mem_nil, or_false] at hr
    rcases hr with rfl | rfl | rfl <;> rfl) (by decide)
  rw [e] at o1
  clear e
  have bd := drow_bd (s := 32) (n := 3) 3 [rowI c0.nc, rowI c1.nc, rowI c2.nc] (rowI_EQ (by decide) (l := [c0.nc, c1.nc, c2.nc]) (fun v hv => by
    simp only [List.mem_cons, List.not_mem_nil, or_false] at hv
    rcases hv with rfl | rfl | rfl
    · exact Sz31 k0
    · exact Sz31 k1
    · exact Sz31 k2)) (by decide)
  have hw := wakes14_ret
  generalize drow 3 [rowI c0.nc, rowI c1.nc, rowI c2.nc] = D at *
  have q := qSame_ret D D (Nat.lt_of_le_of_lt bd.len (by decide)) (Nat.lt_of_le_of_lt bd.len (by decide)) (fun c hc => Nat.lt_of_le_of_lt (bd.sz c hc) (by decide)) (fun c hc => Nat.lt_of_le_of_lt (bd.sz c hc) (by decide))
  simp only [decide_true] at q
  clear bd k0 k1 k2
  generalize c0.nc = n0 at *
  generalize c1.nc = n1 at *
  generalize c2.nc = n2 at *
  generalize c3.nc = n3 at *
  simp only [RC.cells_def, CV.doc_def, List.cons_append, List.nil_append] at *
  refine ret_of_Wf (E := env) (fun _ => 0) [(0, sls ptc l)] Tryz.func9 rfl (by kernel_rfl) (by kernel_rfl) (show 1 ≤ 28 by decide) (by simp) ?_
  refine W.sreg (fun K hK => ?_); simp (disch := omega) [gA, wrap_i64, wrap_u64, wrap_u32, Int.tdiv_eq_ediv_of_nonneg, Int.tmod_eq_emod_of_nonneg]; refine hK _ (W.liveK [0] fun K2 hK2 => ?_); clear hK K; simp; refine hK2 _ ?_; clear hK2 K2
  refine W.sreg (fun K hK => ?_)
  simp (disch := omega) [gA, wrap_i64, wrap_u64, wrap_u32, Int.tdiv_eq_ediv_of_nonneg, Int.tmod_eq_emod_of_nonneg]
  refine callR F ?_
  simp (disch := omega) [gA, wrap_i64, wrap_u64, wrap_u32, Int.tdiv_eq_ediv_of_nonneg, Int.tmod_eq_emod_of_nonneg]
  refine hK _ (W.liveK [3, 4] fun K2 hK2 => ?_); clear hK K; simp; refine hK2 _ ?_; clear hK2 K2
  refine W.sdrw (fun K hK => ?_)
  simp (disch := omega) [gA, wrap_i64, wrap_u64, wrap_u32, Int.tdiv_eq_ediv_of_nonneg, Int.tmod_eq_emod_of_nonneg]
  refine callR o2 ?_
  simp (disch := omega) [gA, wrap_i64, wrap_u64, wrap_u32, Int.tdiv_eq_ediv_of_nonneg, Int.tmod_eq_emod_of_nonneg]
  refine callR o1 ?_
  simp (disch := omega) [gA, wrap_i64, wrap_u64, wrap_u32, Int.tdiv_eq_ediv_of_nonneg, Int.tmod_eq_emod_of_nonneg]
  refine callR q ?_
  simp (disch := omega) [gA, wrap_i64, wrap_u64, wrap_u32, Int.tdiv_eq_ediv_of_nonneg, Int.tmod_eq_emod_of_nonneg]
  refine callR hw ?_
  simp (disch := omega) [gA, wrap_i64, wrap_u64, wrap_u32, Int.tdiv_eq_ediv_of_nonneg, Int.tmod_eq_emod_of_nonneg]
  refine hK _ (W.liveK [2] fun K2 hK2 => ?_); clear hK K; simp; refine hK2 _ ?_; clear hK2 K2
  refine W.ret ?_
  simp [go]
end Go.Proofs.YtgebobdieekjaaaGreat
