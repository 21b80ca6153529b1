import Derived.Test.YtmdcopgjjfihnaaGreatLfo
import Derived.Test.YtmdcopgjjfihnaaGreatLfj
set_option linter.unusedSimpArgs false
set_option linter.unusedVariables false
namespace Go.Proofs.YtmdcopgjjfihnaaGreat
open Go Pm

/-! POINTS THAT ARE HANDED IN. -/
theorem opn_Curve : Opn Tryz.prog 29 (fun ps => ∃ c : RC, ps = c.cells ∧ InP c.x ∧ InP c.y ∧ InL c.l) :=
  (Opn.struct (fs := [⟨ "X", 24, 0, false, "", "", 0⟩, ⟨ "Y", 24, 1, false, "", "", 24⟩, ⟨ "D", 27, 2, false, "", "", 48⟩]) (Rs := [fun ps => ∃ p : RP, ps = pe p ∧ InP p, fun ps => ∃ p : RP, ps = pe p ∧ InP p, fun ps => ∃ c : Bool × List Int, ps = ge c ∧ InL c.2]) (by kernel_rfl)
    ⟨rfl, opn_Poly, by kernel_rfl, opn_Poly, by kernel_rfl, opn_Int, by show (_ : Nat) = _; kernel_rfl⟩).mono fun ps h => by
    simp only [Each] at h
    obtain ⟨a, b, rfl, ⟨x, rfl, hx⟩, a', b', rfl, ⟨y, rfl, hy⟩, a'', b'', rfl, ⟨d, rfl, hd⟩, rfl⟩ := h
    exact ⟨⟨x, y, d.1, d.2⟩, rfl, hx, hy, hd⟩
theorem opn_Point : Opn Tryz.prog 123 (fun ps => ∃ p : PT, ps = ptc p ∧ p.In) :=
  (Opn.struct (fs := [⟨ "Curve", 29, 0, true, "", "", 0⟩, ⟨ "Id", 3, 4, false, "", "", 80⟩]) (Rs := [fun ps => ∃ c : RC, ps = c.cells ∧ InP c.x ∧ InP c.y ∧ InL c.l, fun ps => ∃ n : Int, ps = [.int .i64 n] ∧ (IntKind.min .i64) ≤ n ∧ n ≤ (IntKind.max .i64)]) (by kernel_rfl)
    ⟨rfl, opn_Curve, by kernel_rfl, Opn.int .i64 (by kernel_rfl), by show (_ : Nat) = _; kernel_rfl⟩).mono fun ps h => by
    simp only [Each] at h
    obtain ⟨a, b, rfl, ⟨c, rfl, hx, hy, hd⟩, a', b', rfl, ⟨n, rfl, hn⟩, rfl⟩ := h
    exact ⟨⟨c, n⟩, rfl, hx, hy, hd.lim, hd.len⟩
theorem arg_Points : OpnA Tryz.prog 54 (fun q => ∃ l : List PT, q = sls ptc l ∧ (∀ p ∈ l, p.In) ∧ l.length < 9223372036854775808) :=
  (OpnA.slice (e := 123) (by kernel_rfl) (by rw [show Tryz.prog.cellsOf 123 = 5 by kernel_rfl]; decide) opn_Point).mono fun q ⟨l, h1, h2, h3⟩ => by
    obtain ⟨m, rfl, hm⟩ := maps (g := ptc) (Q := PT.In) (fun ps h => h) h2
    exact ⟨m, h1, hm, by rw [List.length_map] at h3; simp only [maxLen] at h3; omega⟩

/-! LAW 14: THREE, TWO. -/
theorem Sz31 {c : RC} (h : c.Small 3 1) : c.nc.Sz 32 3 := by
  obtain ⟨x, y, d, _⟩ := h.bd2
  exact ⟨x, y, d, by decide, by decide, by decide⟩
end Go.Proofs.YtmdcopgjjfihnaaGreat
