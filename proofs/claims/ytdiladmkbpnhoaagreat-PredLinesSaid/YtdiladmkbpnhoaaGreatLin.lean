import Derived.Test.YtdiladmkbpnhoaaGreatMh
import Derived.Test.YtdiladmkbpnhoaaGreatLw
set_option linter.unusedSimpArgs false
set_option linter.unusedVariables false
namespace Go.Proofs.YtdiladmkbpnhoaaGreat
open Go Pm
structure InP (p : RP) : Prop where
 ok : ∀ c ∈ p, Lim 4294967296 c.2 ∧ c.2.length < 9223372036854775808
 len : p.length < 9223372036854775808
theorem keepP_len (k n : Nat) (p : RP) : (keepP k n p).length ≤ k := by simp [keepP]; omega
theorem keepP_ok {p : RP} (h : InP p) (k n : Nat) : ∀ c ∈ keepP k n p, Lim 4294967296 c.2 ∧ c.2.length ≤ n := fun c hc => by
 simp only [keepP, List.mem_map] at hc
 obtain ⟨d, hd, rfl⟩ := hc
 exact ⟨(h.ok d (List.mem_of_mem_take hd)).1.take n, by simp; omega⟩
structure Sm (k n : Nat) (p : RP) : Prop where
 ok : ∀ c ∈ p, Lim 4294967296 c.2 ∧ c.2.length ≤ n
 len : p.length ≤ k
theorem Sm.keep {p : RP} (h : InP p) (k n : Nat) : Sm k n (keepP k n p) := ⟨keepP_ok h k n, keepP_len k n p⟩
theorem Sm.nil (k n : Nat) : Sm k n [] := ⟨fun c hc => (by cases hc), by simp⟩
theorem iv_natAbs (c : Bool × List Int) (h : Lim 4294967296 c.2) : (gv c).natAbs = (V 4294967296 c.2).natAbs := by
 unfold gv iv; split <;> simp
section
variable {k n : Nat} {p : RP}
theorem Sm.fok (h : Sm k n p) (hk : k < 1099511627776) (hn : n < 4294967296) : FOK p := ⟨fun c hc => ⟨(h.ok c hc).1, by have := (h.ok c hc).2; omega⟩, by have := h.len; omega⟩
theorem Sm.pok (h : Sm k n p) (hk : k < 1099511627776) (hn : n < 1099511627776) : POK p := ⟨fun c hc => ⟨(h.ok c hc).1, by have := (h.ok c hc).2; omega⟩, by have := h.len; omega⟩
theorem Sm.bd (h : Sm k n p) : Bd LL n k (p.map gv) := ⟨by simpa using h.len, fun c hc => by
 simp only [List.mem_map] at hc
 obtain ⟨d, hd, rfl⟩ := hc
 have h1 := sz_V hLL (h.ok d hd).1
 have h2 : sz LL (gv d) = sz LL (V 4294967296 d.2) := by unfold sz; rw [iv_natAbs d (h.ok d hd).1]
 rw [h2]
 exact Nat.le_trans h1 (h.ok d hd).2⟩
theorem Sm.bd2 (h : Sm k n p) : Bd 2 (32 * n) k (p.map gv) := ⟨by simpa using h.len, fun c hc => by
 simp only [List.mem_map] at hc
 obtain ⟨d, hd, rfl⟩ := hc
 have h1 := sz2_V (h.ok d hd).1
 have h2 : sz 2 (gv d) = sz 2 (V 4294967296 d.2) := by unfold sz; rw [iv_natAbs d (h.ok d hd).1]
 have h3 := (h.ok d hd).2
 rw [h2]; omega⟩
end
theorem maps {α : Type} {g : α → List PV} {R : List PV → Prop} {Q : α → Prop} (h : ∀ ps, R ps → ∃ a, ps = g a ∧ Q a) : ∀ {l : List (List PV)}, (∀ x ∈ l, R x) → ∃ m : List α, l = m.map g ∧ ∀ a ∈ m, Q a
 | [], _ => ⟨[], rfl, fun _ h => (by cases h)⟩
 | x :: l, hx => by
  obtain ⟨a, rfl, ha⟩ := h x (hx x (by simp))
  obtain ⟨m, rfl, hm⟩ := maps h (l := l) fun y hy => hx y (by simp [hy])
  exact ⟨a :: m, rfl, fun b hb => by
   rcases List.mem_cons.1 hb with rfl | hb
   ·exact ha
   ·exact hm b hb⟩
structure InL (l : List Int) : Prop where
 lim : Lim 4294967296 l
 len : l.length < 9223372036854775808
theorem opn_u32 : Opn Tryz.prog 169 (fun ps => ∃ n : Int, ps = u32 n ∧ 0 ≤ n ∧ n < 4294967296) :=
 (Opn.int .u32 (by kernel_rfl)).mono fun ps ⟨n, h1, h2, h3⟩ => ⟨n, h1, by simpa [IntKind.min, IntKind.signed] using h2, by simp [IntKind.max, IntKind.signed, IntKind.bits] at h3; omega⟩
theorem opn_us : Opn Tryz.prog 25 (fun ps => ∃ l : List Int, ps = [us l] ∧ InL l) :=
 (Opn.slice (e := 169) (by kernel_rfl) (by rw [show Tryz.prog.cellsOf 169 = 1 by kernel_rfl]; decide) opn_u32).mono fun ps ⟨l, h1, h2, h3⟩ => by
  obtain ⟨m, rfl, hm⟩ := maps (g := u32) (Q := fun n => 0 ≤ n ∧ n < 4294967296) (fun ps h => h) h2
  exact ⟨m, h1, hm, by rw [List.length_map] at h3; simp only [maxLen] at h3; omega⟩
theorem opn_Int : Opn Tryz.prog 27 (fun ps => ∃ c : Bool × List Int, ps = ge c ∧ InL c.2) :=
 (Opn.struct (fs := [⟨ "Neg", 4, 0, false, "", "", 0⟩, ⟨ "L", 25, 1, false, "", "", 8⟩]) (Rs := [fun ps => ∃ b, ps = [.bool b], fun ps => ∃ l : List Int, ps = [us l] ∧ InL l]) (by kernel_rfl)
  ⟨rfl, Opn.bool (by kernel_rfl), by kernel_rfl, opn_us, by show (_ : Nat) = _; kernel_rfl⟩).mono fun ps h => by
  simp only [Each] at h
  obtain ⟨a, b, rfl, ⟨n, rfl⟩, a', b', rfl, ⟨l, rfl, hl⟩, rfl⟩ := h
  exact ⟨(n, l), rfl, hl⟩
theorem opn_Poly : Opn Tryz.prog 24 (fun ps => ∃ p : RP, ps = pe p ∧ InP p) :=
 (Opn.slice (e := 27) (by kernel_rfl) (by rw [show Tryz.prog.cellsOf 27 = 2 by kernel_rfl]; decide) opn_Int).mono fun ps ⟨l, h1, h2, h3⟩ => by
  obtain ⟨m, rfl, hm⟩ := maps (g := ge) (Q := fun c => InL c.2) (fun ps h => h) h2
  exact ⟨m, h1, fun c hc => ⟨(hm c hc).lim, (hm c hc).len⟩, by rw [List.length_map] at h3; simp only [maxLen] at h3; omega⟩
theorem arg_int : OpnA Tryz.prog 3 (fun q => ∃ n : Int, q = .int .i64 n ∧ -9223372036854775808 ≤ n ∧ n < 9223372036854775808) :=
 (OpnA.int .i64 (by kernel_rfl)).mono fun q ⟨n, h1, h2, h3⟩ => ⟨n, h1, by simpa [IntKind.min, IntKind.signed, IntKind.bits] using h2, by simp [IntKind.max, IntKind.signed, IntKind.bits] at h3; omega⟩
theorem arg_bool : OpnA Tryz.prog 4 (fun q => ∃ b, q = .bool b) := OpnA.bool (by kernel_rfl)
theorem arg_Int : OpnA Tryz.prog 27 (fun q => ∃ (s : Bool) (l : List Int), q = IV s l ∧ InL l) :=
 (OpnA.struct (fs := [⟨ "Neg", 4, 0, false, "", "", 0⟩, ⟨ "L", 25, 1, false, "", "", 8⟩]) (Rs := [fun ps => ∃ b, ps = [.bool b], fun ps => ∃ l : List Int, ps = [us l] ∧ InL l]) (by kernel_rfl)
  ⟨rfl, Opn.bool (by kernel_rfl), by kernel_rfl, opn_us, by show (_ : Nat) = _; kernel_rfl⟩).mono fun q ⟨l, h1, h⟩ => by
  simp only [Each] at h
  obtain ⟨a, b, rfl, ⟨n, rfl⟩, a', b', rfl, ⟨l, rfl, hl⟩, rfl⟩ := h
  exact ⟨n, l, h1, hl⟩
theorem arg_Poly : OpnA Tryz.prog 24 (fun q => ∃ p : RP, q = Pg p ∧ InP p) :=
 (OpnA.slice (e := 27) (by kernel_rfl) (by rw [show Tryz.prog.cellsOf 27 = 2 by kernel_rfl]; decide) opn_Int).mono fun q ⟨l, h1, h2, h3⟩ => by
  obtain ⟨m, rfl, hm⟩ := maps (g := ge) (Q := fun c => InL c.2) (fun ps h => h) h2
  exact ⟨m, h1, fun c hc => ⟨(hm c hc).lim, (hm c hc).len⟩, by rw [List.length_map] at h3; simp only [maxLen] at h3; omega⟩
theorem own : ownKnob Tryz.prog.godebug = none := by kernel_rfl
theorem laidOut : laidOutB Tryz.prog = true := by kernel_rfl
end Go.Proofs.YtdiladmkbpnhoaaGreat
