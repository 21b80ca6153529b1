import Derived.Test.YtbbjgncblhfegaaGreatQar
set_option linter.unusedSimpArgs false
set_option linter.unusedVariables false
namespace Go.Proofs.YtbbjgncblhfegaaGreat
open Go Pm
open ZX hiding N W
namespace jB
variable {s n : Nat} {f : ZX} (I : jB s n f)
include I
theorem narrow {i : Nat} (hi : i < (gS s n f).length) {δ : Rat} (hδ : 0 < δ) : ∃ a b, a < b ∧ b - a ≤ δ ∧ Ab a (2 ^ uu s) ∧ Ab b (2 ^ uu s) ∧ vt (bE f) a = vt (bE f) b + 1 ∧ ∀ t, bR f (nth ((gS s n f).map (ex f)) i) t ↔ vt (bE f) t + 1 ≤ vt (bE f) a := by
 obtain ⟨a1, a2, a3, a4, a5, a6⟩ := I.ivs.mem _ (bK hi)
 have hl := I.qM i hi
 have hr := I.nY i hi
 obtain ⟨D, _, _, g1, g2⟩ := aaT a1 a2
 have b1 := g1.b
 have b2 := g2.b
 generalize nth ((gS s n f).map (ex f)) i = x at *
 generalize nth (gS s n f) i = p at *
 obtain ⟨a, b, h1, h2, h3, h4, h5, h6⟩ := Q5 (U := fun t => vt (bE f) t + 1 ≤ vt (bE f) p.1) hδ a4 (by omega) (by omega)
 have m1 := I.S.cD h1
 have m2 := I.S.cD h3
 refine ⟨a, b, h2, h4, dK b1 b2 h1 (by grind), dK b1 b2 (by grind) h3, by omega, fun t => ?_⟩
 rw [hr]
 omega
theorem idx {a b : Rat} (h : vt (bE f) b < vt (bE f) a) : ∃ i, i < (gS s n f).length ∧ ∀ t, bR f (nth ((gS s n f).map (ex f)) i) t ↔ vt (bE f) t + 1 ≤ vt (bE f) a := by
 have t1 := I.aph a
 have t2 := I.api b
 have hi : vt (bE f) (-i7 f.l) - vt (bE f) a < (gS s n f).length := by rw [I.ivs.len]; omega
 refine ⟨_, hi, fun t => ?_⟩
 rw [I.nY _ hi]
 omega
theorem aeg {i j : Nat} (hi : i < (gS s n f).length) (hj : j < (gS s n f).length) (h : ∀ t, bR f (nth ((gS s n f).map (ex f)) i) t ↔ bR f (nth ((gS s n f).map (ex f)) j) t) : i = j := by
 have hl := I.qM i hi
 have hl' := I.qM j hj
 have h1 := h (nth (gS s n f) i).2
 have h2 := h (nth (gS s n f) j).2
 rw [I.nY i hi, I.nY j hj] at h1 h2
 omega
end jB
theorem AW {f g : ZX} {v w : Rat → Nat} (Sf : uB f v) (Sg : uB g w) {a b : Rat} (fH : a < b) (hv : v b < v a) (hw : w b < w a) (h : ∀ t, a ≤ t → t ≤ b → v a + w t = w a + v t) (t : Rat) : v t + 1 ≤ v a ↔ w t + 1 ≤ w a := by
 by_cases h1 : t ≤ a
 ·have m1 := Sf.cD h1
  have m2 := Sg.cD h1
  omega
 ·by_cases h2 : b ≤ t
  ·have m1 := Sf.cD h2
   have m2 := Sg.cD h2
   omega
  ·have := h t (by grind) (by grind)
   omega
section
variable {s n s' n' : Nat} {F f : ZX} (I : jB s n F) (I' : jB s' n' f)
include I I'
theorem UO (hd : dv f F) : gz F f = f := Nf.mX (C5 (.inl I.nf.ne)) I'.nf fun p hp => by
 rw [(dV F f).mu I.nf.ne I'.nf.ne hp]
 have := (jS I'.nf.ne I.nf.ne).1 hd p hp
 omega
theorem KB (hd : dv f F) {i : Nat} (hi : i < (gS s' n' f).length) : ∃ k, k < (gS s n F).length ∧ ∀ t, bR f (nth ((gS s' n' f).map (ex f)) i) t ↔ bR F (nth ((gS s n F).map (ex F)) k) t := by
 obtain ⟨w, S⟩ := pR (h := f) I.nf I.QX
 rw [UO I I' hd] at S
 have hN := S.N.1
 have hn := I.ch.hn
 have hNF := I.ch.bz.N
 have Sw := NY S.nw.ne S.sw (by omega)
 obtain ⟨δ, hδ, VS⟩ := F5 I'.S Sw S.wg.symm (2 ^ uu s')
 obtain ⟨a, b, h1, h2, h3, h4, h5, h6⟩ := I'.narrow hi hδ
 have h7 : vt (bE w) a = vt (bE w) b := (VS a b h3 h4 h1 h2).resolve_left (by omega)
 have h8 := S.xD I.S I'.S Sw (Rat.le_of_lt h1)
 obtain ⟨k, hk, h9⟩ := I.idx (a := a) (b := b) (by omega)
 refine ⟨k, hk, fun t => ?_⟩
 rw [h6, h9]
 refine AW I'.S I.S h1 (by omega) (by omega) (fun t g1 g2 => ?_) t
 have m1 := Sw.cD g1
 have m2 := Sw.cD g2
 have h10 := S.xD I.S I'.S Sw g1
 omega
end
section
variable {s n s' n' s2 n2 : Nat} {F f g : ZX} (I : jB s n F) (If : jB s' n' f) (Ig : jB s2 n2 g)
include I If Ig
theorem N7 (hmu : ∀ p, oC p → mu p F = max (mu p f) (mu p g)) {k : Nat} (hk : k < (gS s n F).length) :
  (∃ i, i < (gS s' n' f).length ∧ ∀ t, bR f (nth ((gS s' n' f).map (ex f)) i) t ↔ bR F (nth ((gS s n F).map (ex F)) k) t) ∨ (∃ i, i < (gS s2 n2 g).length ∧ ∀ t, bR g (nth ((gS s2 n2 g).map (ex g)) i) t ↔ bR F (nth ((gS s n F).map (ex F)) k) t) := by
 obtain ⟨w, S⟩ := pR (h := g) If.nf If.QX
 have hN := S.N
 have hn := If.ch.hn
 have hNf := If.ch.bz.N
 have Sw := NY S.nw.ne S.sw (by omega)
 have Sd := NY S.ng.ne S.sg (by omega)
 obtain ⟨w2, S2⟩ := pR (h := f) Ig.nf Ig.QX
 have KL := S2.N
 have UZ := Ig.ch.hn
 have hNg := Ig.ch.bz.N
 have Sw2 := NY S2.nw.ne S2.sw (by omega)
 have hgd : gz g f = gz f g := Nf.mX S2.ng S.ng fun p hp => by rw [(dV g f).mu Ig.nf.ne If.nf.ne hp, (dV f g).mu If.nf.ne Ig.nf.ne hp, Nat.min_comm]
 rw [hgd] at S2
 have hF : F = w * g := Nf.mX I.nf (S.nw.mul Ig.nf) fun p hp => by
  have e1 := (dV f g).mu If.nf.ne Ig.nf.ne hp
  have e2 := pK hp S.nw.ne S.ng.ne
  rw [← S.eq] at e2
  rw [hmu p hp, pK hp S.nw.ne Ig.nf.ne]
  omega
 have e : K 1 * F = w * g := by rw [← hF]; show (1 : ZX) * F = F; grind
 have cF := fun {x y : Rat} (h : x ≤ y) => I.S.mul Sw Ig.S (by decide) e S.wh h
 have cf := fun {x y : Rat} (h : x ≤ y) => S.xD If.S Sd Sw h
 have cg := fun {x y : Rat} (h : x ≤ y) => S2.xD Ig.S Sd Sw2 h
 obtain ⟨δ, hδ, VS⟩ := F5 Sw Ig.S S.wh (2 ^ uu s)
 obtain ⟨a, b, h1, h2, h3, h4, h5, h6⟩ := I.narrow hk hδ
 have c1 := cF (Rat.le_of_lt h1)
 have c2 := cf (Rat.le_of_lt h1)
 have c3 := cg (Rat.le_of_lt h1)
 have md := Sd.cD (Rat.le_of_lt h1)
 have mw := Sw.cD (Rat.le_of_lt h1)
 have mw2 := Sw2.cD (Rat.le_of_lt h1)
 have mg := Ig.S.cD (Rat.le_of_lt h1)
 rcases VS a b h3 h4 h1 h2 with h7 | h7
 ·obtain ⟨i, hi, h8⟩ := Ig.idx (a := a) (b := b) (by omega)
  refine .inr ⟨i, hi, fun t => ?_⟩
  rw [h6, h8]
  refine AW Ig.S I.S h1 (by omega) (by omega) (fun t g1 g2 => ?_) t
  have m1 := Sw.cD g1
  have m2 := Sw.cD g2
  have h10 := cF g1
  omega
 ·obtain ⟨i, hi, h8⟩ := If.idx (a := a) (b := b) (by omega)
  refine .inl ⟨i, hi, fun t => ?_⟩
  rw [h6, h8]
  refine AW If.S I.S h1 (by omega) (by omega) (fun t g1 g2 => ?_) t
  have m1 := Ig.S.cD g1
  have m2 := Ig.S.cD g2
  have m3 := Sd.cD g1
  have m4 := Sd.cD g2
  have h10 := cF g1
  have h11 := cf g1
  omega
end
end Go.Proofs.YtbbjgncblhfegaaGreat
