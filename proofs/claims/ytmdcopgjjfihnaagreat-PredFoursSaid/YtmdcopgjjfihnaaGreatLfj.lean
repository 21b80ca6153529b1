import Derived.Test.YtmdcopgjjfihnaaGreatLfi
set_option linter.unusedSimpArgs false
set_option linter.unusedVariables false
namespace Go.Proofs.YtmdcopgjjfihnaaGreat
open Go Pm

/-- A point that is handed in. -/
structure PT where
  c : RC
  id : Int
instance : Inhabited PT := ⟨⟨⟨[], [], false, []⟩, 0⟩⟩
def ptc (p : PT) : List PV := [Pg p.c.x, Pg p.c.y, .bool p.c.s, sls u32 p.c.l, .int .i64 p.id]
@[simp] theorem ptc_def {p : PT} : ptc p = [Pg p.c.x, Pg p.c.y, .bool p.c.s, sls u32 p.c.l, .int .i64 p.id] := rfl
@[simp] theorem lenAll_ptc {l : List PT} : lenAll 5 (emap ptc l) = True := lenAll_emap fun _ => rfl
structure PT.In (p : PT) : Prop where
  x : InP p.c.x
  y : InP p.c.y
  l : Lim 4294967296 p.c.l
  ll : p.c.l.length < 9223372036854775808
/-- The curve that is taken. -/
def fourC (l : List PT) (k : Nat) : RC := if k < l.length then (nth l k).c.cut 3 1 else ⟨[], [], false, []⟩
def fourA (l : List PT) (k : Nat) : List PV := if k < l.length then ((nth l k).c.cut 3 1).cells else [.nil, .nil, .bool false, .nil]
theorem fourC_small {l : List PT} (h : ∀ p ∈ l, p.In) (k : Nat) : (fourC l k).Small 3 1 := by
  unfold fourC
  split
  · rename_i hk
    have hp := h _ (nth_mem hk)
    exact ⟨Sm.keep hp.x 3 1, Sm.keep hp.y 3 1, hp.l.take 1, by show (List.take 1 _).length ≤ 1; simp; omega, by decide, by decide, by decide⟩
  · exact ⟨Sm.nil 3 1, Sm.nil 3 1, Lim.nil, by decide, by decide, by decide, by decide⟩
set_option maxHeartbeats 2000000 in
theorem four_ret (l : List PT) (h : ∀ p ∈ l, p.In) (hl : l.length < 9223372036854775808) : Ret env.P 26 [sls ptc l] (.tup [.ag ((fourC l 0).cells ++ ((fourC l 1).cells ++ ((fourC l 2).cells ++ ((fourC l 3).cells ++ [])))), .ag ((fourC l 0).nc.doc ++ ((fourC l 1).nc.doc ++ ((fourC l 2).nc.doc ++ ((fourC l 3).nc.doc ++ []))))]) := by
  have hF : ∀ k, Ret env.P 87 [.ag (fourC l k).cells] (.ag (fourC l k).nc.doc) := fun k => From12_ret (fourC_small h k)
  have hC : ∀ k, k < l.length → Ret env.P 86 [.ag [Pg (nth l k).c.x, Pg (nth l k).c.y, .bool (nth l k).c.s, sls u32 (nth l k).c.l], .int .i64 3, .int .i64 1] (.ag (fourC l k).cells) := fun k hk => by
    have hp := h _ (nth_mem hk)
    have := Cut12_ret (nth l k).c 3 1 hp.x.len (fun e he => (hp.x.ok e he).2) hp.y.len (fun e he => (hp.y.ok e he).2) hp.ll (by decide) (by decide)
    rw [show fourC l k = (nth l k).c.cut 3 1 from if_pos hk]
    exact this
  have hA : ∀ k, (fourA l k).length = 4 := fun k => by unfold fourA; split <;> rfl
  have hB : ∀ k, (fourC l k).nc.doc.length = 6 := fun k => rfl
  have hA1 : ∀ k, k < l.length → fourA l k = (fourC l k).cells := fun k hk => by unfold fourA fourC; rw [if_pos hk, if_pos hk]
  have hA2 : ∀ k, ¬ k < l.length → fourA l k = [.nil, .nil, .bool false, .nil] ∧ fourC l k = ⟨[], [], false, []⟩ := fun k hk => by unfold fourA fourC; rw [if_neg hk, if_neg hk]; exact ⟨rfl, rfl⟩
  generalize fourC l = C at *
  generalize fourA l = A at *
  have i0 : blocks A [.nil, .nil, .bool false, .nil] 0 = [.nil, .nil, .bool false, .nil, .nil, .nil, .bool false, .nil, .nil, .nil, .bool false, .nil, .nil, .nil, .bool false, .nil] := rfl
  have i0' : blocks (fun k => (C k).nc.doc) [.nil, .nil, .nil, .nil, .bool false, .nil] 0 = [.nil, .nil, .nil, .nil, .bool false, .nil, .nil, .nil, .nil, .nil, .bool false, .nil, .nil, .nil, .nil, .nil, .bool false, .nil, .nil, .nil, .nil, .nil, .bool false, .nil] := rfl
  refine ret_of_Wf (E := env) (fun _ => 0) [(0, sls ptc l)] Tryz.func26 rfl (by kernel_rfl) (by kernel_rfl) (show 1 ≤ 31 by decide) (by simp) ?_
  refine W.sreg (fun K hK => ?_); simp (disch := omega) [gA, wrap_i64, wrap_u64, wrap_u32, Int.tdiv_eq_ediv_of_nonneg, Int.tmod_eq_emod_of_nonneg]; refine hK _ (W.liveK [0, 2, 3] fun K2 hK2 => ?_); clear hK K; simp; refine hK2 _ ?_; clear hK2 K2
  refine W.sreg (fun K hK => ?_); simp (disch := omega) [gA, wrap_i64, wrap_u64, wrap_u32, Int.tdiv_eq_ediv_of_nonneg, Int.tmod_eq_emod_of_nonneg]; refine hK _ (W.liveK [0, 2, 3, 4] fun K2 hK2 => ?_); clear hK K; simp; refine hK2 _ ?_; clear hK2 K2
  refine W.sreg (fun K hK => ?_); simp (disch := omega) [gA, wrap_i64, wrap_u64, wrap_u32, Int.tdiv_eq_ediv_of_nonneg, Int.tmod_eq_emod_of_nonneg]; refine hK _ (W.liveK [0, 2, 3, 4, 5] fun K2 hK2 => ?_); clear hK K; simp; refine hK2 _ ?_; clear hK2 K2
  refine W.seq ?_
  refine W.sreg (fun K hK => ?_); simp (disch := omega) [gA, wrap_i64, wrap_u64, wrap_u32, Int.tdiv_eq_ediv_of_nonneg, Int.tmod_eq_emod_of_nonneg]; refine hK _ (W.liveK [0, 2, 3, 4, 5, 6] fun K2 hK2 => ?_); clear hK K; simp; refine hK2 _ ?_; clear hK2 K2
  refine W.block ?_   -- block 0
  refine W.loopG (fun k σ => ∃ (i v2 v3 v4 v5 e2 e3 e4 e5 : Nat) (L2 L3 : List PV) (rows : Pm.Rows) (clk : Nat), σ = ⟨fa [(0, sls ptc l), (2, .ptr 2 v2 0 0), (3, .ptr 3 v3 0 0), (4, .ptr 4 v4 0 0), (5, .ptr 5 v5 0 0), (6, .int .i64 i)], rows, clk⟩ ∧
    rows 2 = some ⟨v2, e2, 16, [L2]⟩ ∧ rows 3 = some ⟨v3, e3, 24, [L3]⟩ ∧ L2.length = 16 ∧ L3.length = 24 ∧ rows 4 = some ⟨v4, e4, 16, [blocks A [.nil, .nil, .bool false, .nil] i]⟩ ∧ rows 5 = some ⟨v5, e5, 24, [blocks (fun k => (C k).nc.doc) [.nil, .nil, .nil, .nil, .bool false, .nil] i]⟩ ∧ i + k = 4) 4 ?_ ?_
  · exact ⟨_, .refl, 0, _, _, _, _, _, _, _, _, _, _, _, _, rfl, by simp; exact ⟨rfl, rfl⟩, by simp; exact ⟨rfl, rfl⟩, by simp, by simp, by rw [i0]; simp; rfl, by rw [i0']; simp; rfl, by omega⟩
  rintro k _ ⟨i, v2, v3, v4, v5, e2, e3, e4, e5, L2, L3, rows, clk, rfl, hr2, hr3, hL2, hL3, hr4, hr5, hik⟩
  refine W.seq ?_
  refine W.sreg (fun K hK => ?_); simp (disch := omega) [gA, wrap_i64, wrap_u64, wrap_u32, Int.tdiv_eq_ediv_of_nonneg, Int.tmod_eq_emod_of_nonneg]; refine hK _ (W.liveK [0, 2, 3, 4, 5, 6, 8] fun K2 hK2 => ?_); clear hK K; simp; refine hK2 _ ?_; clear hK2 K2
  refine W.cond ⟨_, rfl, fun h => ?_, fun h => ?_⟩   -- t8
  · have hi : i < 4 := by simp at h; omega
    have sA := blk_set hA (z := [.nil, .nil, .bool false, .nil]) rfl i hi
    have gA := blk_get hA (z := [.nil, .nil, .bool false, .nil]) rfl i hi
    have lA := blk_len hA (z := [.nil, .nil, .bool false, .nil]) rfl i
    have lA' := blk_len hA (z := [.nil, .nil, .bool false, .nil]) rfl (i + 1)
    have sB := blk_set hB (z := [.nil, .nil, .nil, .nil, .bool false, .nil]) rfl i hi
    have lB := blk_len hB (z := [.nil, .nil, .nil, .nil, .bool false, .nil]) rfl i
    have kA : A i = [.nil, .nil, .bool false, .nil] → blocks A [.nil, .nil, .bool false, .nil] i = blocks A [.nil, .nil, .bool false, .nil] (i + 1) := blk_skip hi
    have hCi := hC i
    have hFi := hF i
    have hA1i := hA1 i
    have hA2i := hA2 i
    generalize hEA' : blocks A [.nil, .nil, .bool false, .nil] (i + 1) = EA' at *
    generalize blocks A [.nil, .nil, .bool false, .nil] i = EA at *
    generalize hEB' : blocks (fun k => (C k).nc.doc) [.nil, .nil, .nil, .nil, .bool false, .nil] (i + 1) = EB' at *
    generalize blocks (fun k => (C k).nc.doc) [.nil, .nil, .nil, .nil, .bool false, .nil] i = EB at *
    simp only [CV.doc_def] at sB hFi
    have bA : i * 4 + 4 ≤ EA.length := by rw [lA]; omega
    have bA' : i * 4 + 4 ≤ EA'.length := by rw [lA']; omega
    have bB : i * 6 + 6 ≤ EB.length := by rw [lB]; omega
    refine W.skip ?_
    refine W.seq ?_
    refine W.block ?_   -- block 1
    by_cases hil : i < l.length
    · have hCi := hCi hil
      rw [hA1i hil] at sA gA
      simp only [RC.cells_def] at hCi hFi sA gA
      refine W.seqJ (fun σ => ∃ (v4 e4 : Nat) (rows : Pm.Rows) (clk : Nat), σ = ⟨fa [(0, sls ptc l), (2, .ptr 2 v2 0 0), (3, .ptr 3 v3 0 0), (4, .ptr 4 v4 0 0), (5, .ptr 5 v5 0 0), (6, .int .i64 i)], rows, clk⟩ ∧
        rows 2 = some ⟨v2, e2, 16, [L2]⟩ ∧ rows 3 = some ⟨v3, e3, 24, [L3]⟩ ∧ rows 4 = some ⟨v4, e4, 16, [EA']⟩ ∧ rows 5 = some ⟨v5, e5, 24, [EB]⟩) ?_ ?_
      · refine W.sreg (fun K hK => ?_); simp (disch := omega) [gA, wrap_i64, wrap_u64, wrap_u32, Int.tdiv_eq_ediv_of_nonneg, Int.tmod_eq_emod_of_nonneg]; refine hK _ (W.liveK [0, 2, 3, 4, 5, 6, 14] fun K2 hK2 => ?_); clear hK K; simp; refine hK2 _ ?_; clear hK2 K2
        refine W.cond ⟨_, rfl, fun h => ?_, fun h => ?_⟩   -- t14
        · refine W.reg (fun K hK => ?_)
          simp (disch := omega) [gA, wrap_i64, wrap_u64, wrap_u32, Int.tdiv_eq_ediv_of_nonneg, Int.tmod_eq_emod_of_nonneg, hil]
          refine callR hCi ?_
          simp (disch := omega) [gA, wrap_i64, wrap_u64, wrap_u32, Int.tdiv_eq_ediv_of_nonneg, Int.tmod_eq_emod_of_nonneg, hr4, hi, bA, sA]
          exact hK _ ⟨_, Gh_fa _ [0, 2, 3, 4, 5, 6], _, _, _, _, rfl, by simp [hr2], by simp [hr3], by simp; exact ⟨rfl, by simpa using sA⟩, by simp [hr5]⟩
        · simp at h; omega
      rintro _ ⟨v4, e4, rows, clk, rfl, hr2, hr3, hr4, hr5⟩
      refine W.reg (fun K hK => ?_)
      simp (disch := omega) [gA, wrap_i64, wrap_u64, wrap_u32, Int.tdiv_eq_ediv_of_nonneg, Int.tmod_eq_emod_of_nonneg, hr4, gA, hi, bA']
      refine callR hFi ?_
      simp (disch := omega) [gA, wrap_i64, wrap_u64, wrap_u32, Int.tdiv_eq_ediv_of_nonneg, Int.tmod_eq_emod_of_nonneg, hr5, hi, bB, sB]
      refine hK _ (W.liveK [0, 2, 3, 4, 5, 6] fun K2 hK2 => ?_); clear hK K; simp; refine hK2 _ ?_; clear hK2 K2
      refine W.reg (fun K hK => ?_); simp (disch := omega) [gA, wrap_i64, wrap_u64, wrap_u32, Int.tdiv_eq_ediv_of_nonneg, Int.tmod_eq_emod_of_nonneg]
      refine hK _ ⟨k - 1, _, Gh_fa _ [0, 2, 3, 4, 5, 6], by omega, i + 1, v2, v3, v4, v5, _, _, _, _, L2, L3, _, _, rfl, by simp [hr2]; exact rfl, by simp [hr3]; exact rfl, hL2, hL3, by simp [hr4]; exact ⟨rfl, hEA'.symm⟩, by simp; exact ⟨rfl, Eq.trans (by simpa using sB) hEB'.symm⟩, by omega⟩
    · obtain ⟨kA1, kA2⟩ := hA2i hil
      rw [kA1] at gA
      rw [kA2] at hFi sB
      have kA := kA kA1
      subst kA
      refine W.seqJ (fun σ => ∃ (rows : Pm.Rows) (clk : Nat), σ = ⟨fa [(0, sls ptc l), (2, .ptr 2 v2 0 0), (3, .ptr 3 v3 0 0), (4, .ptr 4 v4 0 0), (5, .ptr 5 v5 0 0), (6, .int .i64 i)], rows, clk⟩ ∧
        rows 2 = some ⟨v2, e2, 16, [L2]⟩ ∧ rows 3 = some ⟨v3, e3, 24, [L3]⟩ ∧ rows 4 = some ⟨v4, e4, 16, [EA]⟩ ∧ rows 5 = some ⟨v5, e5, 24, [EB]⟩) ?_ ?_
      · refine W.sreg (fun K hK => ?_); simp (disch := omega) [gA, wrap_i64, wrap_u64, wrap_u32, Int.tdiv_eq_ediv_of_nonneg, Int.tmod_eq_emod_of_nonneg]; refine hK _ (W.liveK [0, 2, 3, 4, 5, 6, 14] fun K2 hK2 => ?_); clear hK K; simp; refine hK2 _ ?_; clear hK2 K2
        refine W.cond ⟨_, rfl, fun h => ?_, fun h => ?_⟩   -- t14
        · simp at h; omega
        · refine W.skip ?_
          exact ⟨_, Gh_fa _ [0, 2, 3, 4, 5, 6], _, _, rfl, by simp [hr2], by simp [hr3], by simp [hr4], by simp [hr5]⟩
      rintro _ ⟨rows, clk, rfl, hr2, hr3, hr4, hr5⟩
      refine W.reg (fun K hK => ?_)
      simp (disch := omega) [gA, wrap_i64, wrap_u64, wrap_u32, Int.tdiv_eq_ediv_of_nonneg, Int.tmod_eq_emod_of_nonneg, hr4, gA, hi, bA']
      refine callR hFi ?_
      simp (disch := omega) [gA, wrap_i64, wrap_u64, wrap_u32, Int.tdiv_eq_ediv_of_nonneg, Int.tmod_eq_emod_of_nonneg, hr5, hi, bB, sB]
      refine hK _ (W.liveK [0, 2, 3, 4, 5, 6] fun K2 hK2 => ?_); clear hK K; simp; refine hK2 _ ?_; clear hK2 K2
      refine W.reg (fun K hK => ?_); simp (disch := omega) [gA, wrap_i64, wrap_u64, wrap_u32, Int.tdiv_eq_ediv_of_nonneg, Int.tmod_eq_emod_of_nonneg]
      refine hK _ ⟨k - 1, _, Gh_fa _ [0, 2, 3, 4, 5, 6], by omega, i + 1, v2, v3, v4, v5, _, _, _, _, L2, L3, _, _, rfl, by simp [hr2]; exact rfl, by simp [hr3]; exact rfl, hL2, hL3, by simp [hr4]; exact ⟨rfl, hEA'.symm⟩, by simp; exact ⟨rfl, Eq.trans (by simpa using sB) hEB'.symm⟩, by omega⟩
  · have hi : i = 4 := by simp at h; omega
    subst hi
    refine W.exit ?_; simp only [pblk_exit, pblk_normal, pblk_ret, pseq_exit, pseq_normal, pseq_ret, pnor_exit, pnor_normal, pnor_ret, if_true, if_false, reduceIte, Nat.reduceEqDiff]
    have b4 : blocks A [.nil, .nil, .bool false, .nil] 4 = A 0 ++ (A 1 ++ (A 2 ++ (A 3 ++ []))) := by simp [blocks]
    have b5 : blocks (fun k => (C k).nc.doc) [.nil, .nil, .nil, .nil, .bool false, .nil] 4 = (C 0).nc.doc ++ ((C 1).nc.doc ++ ((C 2).nc.doc ++ ((C 3).nc.doc ++ []))) := by simp [blocks]
    rw [b4] at hr4
    rw [b5] at hr5
    have hz : ∀ k, (A k = (C k).cells) ∨ (A k = [.nil, .nil, .bool false, .nil] ∧ C k = ⟨[], [], false, []⟩) := fun k => by
      by_cases hk : k < l.length
      · exact .inl (hA1 k hk)
      · exact .inr (hA2 k hk)
    generalize (C 0).nc = n0 at *
    generalize (C 1).nc = n1 at *
    generalize (C 2).nc = n2 at *
    generalize (C 3).nc = n3 at *
    simp only [CV.doc_def, List.cons_append, List.nil_append] at hr5
    have d2 : List.drop 16 L2 = [] := List.drop_eq_nil_of_le (by omega)
    have d3 : List.drop 24 L3 = [] := List.drop_eq_nil_of_le (by omega)
    have hn1 : Pg [] = PV.sl [] := rfl
    have hn2 : sls u32 ([] : List Int) = PV.sl [] := rfl
    have z0 := hz 0
    have z1 := hz 1
    have z2 := hz 2
    have z3 := hz 3
    rcases z0 with z0 | ⟨z0, c0⟩ <;> rcases z1 with z1 | ⟨z1, c1⟩ <;> rcases z2 with z2 | ⟨z2, c2⟩ <;> rcases z3 with z3 | ⟨z3, c3⟩ <;>
    · rw [z0, z1, z2, z3] at hr4
      simp only [RC.cells_def, List.cons_append, List.nil_append] at hr4
      refine W.sdrw (fun K hK => ?_)
      simp (disch := omega) [gA, wrap_i64, wrap_u64, wrap_u32, Int.tdiv_eq_ediv_of_nonneg, Int.tmod_eq_emod_of_nonneg, hr4, hr5, hr2, hr3, hL2, hL3, d2, d3]
      rw [if_pos (by kernel_rfl)]
      simp (disch := omega) [gA, wrap_i64, wrap_u64, wrap_u32, Int.tdiv_eq_ediv_of_nonneg, Int.tmod_eq_emod_of_nonneg, hr3, hL3, d3]
      refine hK _ (W.liveK [2, 3] fun K2 hK2 => ?_); clear hK K; simp; refine hK2 _ ?_; clear hK2 K2
      refine W.ret ?_
      simp only [RC.cells_def, CV.doc_def, List.cons_append, List.nil_append]
      try rw [c0]
      try rw [c1]
      try rw [c2]
      try rw [c3]
      simp [go]
      try simp only [hn1, hn2, and_self]
end Go.Proofs.YtmdcopgjjfihnaaGreat
