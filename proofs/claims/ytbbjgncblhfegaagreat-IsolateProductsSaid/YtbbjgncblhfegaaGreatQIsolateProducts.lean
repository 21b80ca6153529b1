/- For every input the law IsolateProducts of chapter 09 returns true, and each argument reads afterwards as it read before. No conditions. -/
import Derived.Test.YtbbjgncblhfegaaGreatRows
import Derived.Test.YtbbjgncblhfegaaGreatQas
set_option linter.unusedSimpArgs false
set_option linter.unusedVariables false
namespace Go.Proofs.YtbbjgncblhfegaaGreat
open Go Pm
open ZX hiding N W
theorem ajy {s n : Nat} {f : ZX} (I : jB s n f) (h : ZX) (hC : (qb (qb s n) n + n + 6) * 4 ^ n ≤ 4500000000) (hq : qb s n ≤ 5000000) : jB (qb s n) n (gz h f) := by
 have nd : Nf (gz h f) := C5 (.inr I.nf.ne)
 have hd : dv (gz h f) f := (dV h f).r
 obtain ⟨w, nw, e⟩ := I.nf.quo nd hd
 have hD : bO f = bO w * gz h f + w * bO (gz h f) := by
  have h1 := congrArg bO e
  rwa [qA] at h1
 refine ⟨⟨I.lay.dv I.nf nd hd, I.lay.hn, Nat.le_trans I.lay.hs (Nat.pow_le_pow_right (by decide) (by unfold qb; omega)), hC⟩, I.AG, nd, aaR nd fun d h1 h2 => I.QX d (h1.trans hd) (by rw [hD]; exact (h1.mul_left _).add (h2.mul_left _)), hq⟩
section
variable {s n s' n' S N : Nat} {f h : ZX} (I : jB s n f) (I' : jB s' n' h) (p5 : s ≤ S) (O5 : s' ≤ S) (AG : n ≤ N) (UZ : n' ≤ N) (hN : N ≤ 20)
include I I' p5 O5 AG UZ hN
theorem aum (hNS : N + 1 ≤ 2 ^ S) : Two S N f h := ⟨I.nf, I'.nf, I.QX, I'.QX, fun c hc => Nat.le_trans (I.szf c hc) (Nat.pow_le_pow_right (by decide) p5), fun c hc => Nat.le_trans (I'.szf c hc) (Nat.pow_le_pow_right (by decide) O5),
 Nat.le_trans I.ch.bz.N AG, Nat.le_trans I'.ch.bz.N UZ, hN, hNS⟩
theorem ajz (hC : (S + N + 1) * 2 * 4 ^ N ≤ 4500000000) : aL env.P 171 [PI h.l, PI f.l] (PI (gz h f).l) := by
 refine C8 (C := 4500000000) (I'.ch.bz.mono O5 UZ) (I.ch.bz.mono p5 AG) ?_ hN (by decide) (Nat.le_trans I.s1 p5)
 rw [I.nf.nfe, I'.nf.nfe]
 have h1 : (4 : Nat) ^ ZX.N h ≤ 4 ^ N := Nat.pow_le_pow_right (by decide) (Nat.le_trans I'.ch.bz.N UZ)
 have h2 : (4 : Nat) ^ ZX.N f ≤ 4 ^ N := Nat.pow_le_pow_right (by decide) (Nat.le_trans I.ch.bz.N AG)
 unfold u4
 split
 ·exact Nat.le_trans (Nat.mul_le_mul (by omega) h1) hC
 ·exact Nat.le_trans (Nat.mul_le_mul (Nat.le_refl _) h2) hC
theorem aun (hNS : N + 1 ≤ 2 ^ S) (hS : S ≤ 20000) (hC : (S + N + 1) * 2 * 4 ^ N ≤ 4500000000) (hC2 : (qb (qb s n) n + n + 6) * 4 ^ n ≤ 4500000000) (hq : qb s n ≤ 5000000) {u : Nat} {p q : Rat × Rat} (A : pN f (vt (bE f)) p.1 p.2) (B : pN h (vt (bE h)) q.1 q.2) (p1 : SQ u p.1) (p2 : SQ u p.2) (q1 : SQ u q.1) (q2 : SQ u q.2) (hu : u ≤ 2200000) :
  aL env.P 42 [QA f (bE f) p, QA h (bE h) q] (.int .i64 (cu (bR f p) (bR h q))) :=
 aaU I I' (aum I I' p5 O5 AG UZ hN hNS) hS (ajz I I' p5 O5 AG UZ hN hC) (fun _ => ⟨_, _, ajy I h hC2 hq⟩) A B p1 p2 q1 q2 hu
end
theorem jB.root {s n : Nat} {f : ZX} (I : jB s n f) {p : Rat × Rat} (hp : p ∈ gS s n f) : SQ (uu s) p.1 ∧ SQ (uu s) p.2 ∧ pN f (vt (bE f)) (ex f p).1 (ex f p).2 ∧ SQ (uu s) (ex f p).1 ∧ SQ (uu s) (ex f p).2 := by
 obtain ⟨a1, a2, a3, a4, a5, a6⟩ := I.ivs.mem _ hp
 refine ⟨a1, a2, (Q3 ⟨I.S, .inr ⟨a4, a6⟩⟩).1, ?_, ?_⟩ <;> (unfold ex; split <;> assumption)
theorem F7 {α : Type} [Inhabited α] {L : List α} {x : α} (h : x ∈ L) : ∃ i, i < L.length ∧ nth L i = x := by
 obtain ⟨i, hi, e⟩ := List.mem_iff_getElem.1 h
 exact ⟨i, hi, by rw [cC hi, e]⟩
theorem apl {sF nF sf nf sg ng : Nat} {F f g : ZX} (I : jB sF nF F) (If : jB sf nf f) (Ig : jB sg ng g) (hmu : ∀ p, oC p → mu p F = max (mu p f) (mu p g)) (h1 : sf ≤ sF) (h2 : sg ≤ sF) (h3 : nf ≤ nF) (h4 : ng ≤ nF) (hS : sF ≤ 5000) (hC : (sF + nF + 1) * 2 * 4 ^ nF ≤ 4500000000)
  (hF : (qb (qb sF nF) nF + nF + 6) * 4 ^ nF ≤ 4500000000 ∧ qb sF nF ≤ 5000000) (hf : (qb (qb sf nf) nf + nf + 6) * 4 ^ nf ≤ 4500000000 ∧ qb sf nf ≤ 5000000) (hg : (qb (qb sg ng) ng + ng + 6) * 4 ^ ng ≤ 4500000000 ∧ qb sg ng ≤ 5000000) :
  ∃ κ, PK F (gS sF nF F) ((gS sf nf f).map (fun p => (f, p)) ++ (gS sg ng g).map (fun p => (g, p))) κ := by
 have df : dv f F := (jS If.nf.ne I.nf.ne).2 fun p hp => by have := hmu p hp; omega
 have dg : dv g F := (jS Ig.nf.ne I.nf.ne).2 fun p hp => by have := hmu p hp; omega
 have lF := xY I
 have lf := xY If
 have lg := xY Ig
 have hU : uu sF ≤ 2200000 := by unfold uu; omega
 have uf : uu sf ≤ uu sF := by unfold uu; omega
 have ug : uu sg ≤ uu sF := by unfold uu; omega
 have hNS := I.lay.hs
 have hN := I.ch.hn
 obtain ⟨B, hB⟩ : ∃ B, B = (gS sf nf f).map (fun p => (f, p)) ++ (gS sg ng g).map (fun p => (g, p)) := ⟨_, rfl⟩
 have mB : ∀ {x}, x ∈ B → (∃ p, p ∈ gS sf nf f ∧ x = (f, p)) ∨ (∃ p, p ∈ gS sg ng g ∧ x = (g, p)) := fun {x} hx => by
  rw [hB] at hx
  rcases List.mem_append.1 hx with h | h
  ·obtain ⟨p, h5, h6⟩ := List.mem_map.1 h; exact .inl ⟨p, h5, h6.symm⟩
  ·obtain ⟨p, h5, h6⟩ := List.mem_map.1 h; exact .inr ⟨p, h5, h6.symm⟩
 have hlen : B.length ≤ 42 := by rw [hB, List.length_append, List.length_map, List.length_map]; omega
 have hex : ∀ i, i < B.length → ∃ k, k < (gS sF nF F).length ∧ ∀ t, bR (nth B i).1 (ex (nth B i).1 (nth B i).2) t ↔ bR F (ex F (nth (gS sF nF F) k)) t := fun i hi => by
  rcases mB (bK hi) with ⟨p, hp, e⟩ | ⟨p, hp, e⟩
  ·obtain ⟨j, hj, rfl⟩ := F7 hp
   obtain ⟨k, hk, h5⟩ := KB I If df hj
   rw [dW hj, dW hk] at h5
   rw [e]; exact ⟨k, hk, h5⟩
  ·obtain ⟨j, hj, rfl⟩ := F7 hp
   obtain ⟨k, hk, h5⟩ := KB I Ig dg hj
   rw [dW hj, dW hk] at h5
   rw [e]; exact ⟨k, hk, h5⟩
 obtain ⟨κ, hκ⟩ : ∃ κ : Nat → Nat, ∀ i, i < B.length → κ i < (gS sF nF F).length ∧ ∀ t, bR (nth B i).1 (ex (nth B i).1 (nth B i).2) t ↔ bR F (ex F (nth (gS sF nF F) (κ i))) t :=
  ⟨fun i => if h : i < B.length then Classical.choose (hex i h) else 0, fun i hi => by
   show (if h : i < B.length then Classical.choose (hex i h) else 0) < _ ∧ ∀ t, _ ↔ bR F (ex F (nth _ (if h : i < B.length then Classical.choose (hex i h) else 0))) t
   rw [dif_pos hi]; exact Classical.choose_spec (hex i hi)⟩
 have inj : ∀ {i j}, i < (gS sF nF F).length → j < (gS sF nF F).length → (∀ t, bR F (ex F (nth (gS sF nF F) i)) t ↔ bR F (ex F (nth (gS sF nF F) j)) t) → i = j := fun {i j} hi hj h => I.aeg hi hj (by rw [dW hi, dW hj]; exact h)
 have C : ∀ {s n s' n' : Nat} {a b : ZX} {p q : Rat × Rat}, jB s n a → jB s' n' b → s ≤ sF → s' ≤ sF → n ≤ nF → n' ≤ nF → (qb (qb s n) n + n + 6) * 4 ^ n ≤ 4500000000 ∧ qb s n ≤ 5000000 → p ∈ gS s n a → q ∈ gS s' n' b →
   aL env.P 42 [QA a (bE a) (ex a p), QA b (bE b) (ex b q)] (.int .i64 (cu (bR a (ex a p)) (bR b (ex b q)))) := fun {s n s' n' a b p q} J J' g1 g2 g3 g4 g5 hp hq => by
  obtain ⟨_, _, a1, a2, a3⟩ := J.root hp
  obtain ⟨_, _, b1, b2, b3⟩ := J'.root hq
  have k1 : uu s ≤ uu sF := by unfold uu; omega
  have k2 : uu s' ≤ uu sF := by unfold uu; omega
  exact aun J J' g1 g2 g3 g4 hN hNS (by omega) hC g5.1 g5.2 a1 b1 (a2.mono k1) (a3.mono k1) (b2.mono k2) (b3.mono k2) hU
 have GD : ∀ k, k < (gS sF nF F).length → nth (gS sF nF F) k ∈ gS sF nF F := fun k hk => bK hk
 rw [← hB]
 refine ⟨κ, by omega, by omega, fun k hk => ?_, fun i hi => ?_, fun k i hk hi => ?_, fun k i VR hi => ?_, fun i hi => (hκ i hi).1, fun k hk => ?_⟩
 ·obtain ⟨a1, a2, _⟩ := I.root (GD k hk)
  exact I.aaO a1 a2 (by omega)
 ·rcases mB (bK hi) with ⟨p, hp, e⟩ | ⟨p, hp, e⟩
  ·obtain ⟨a1, a2, _⟩ := If.root hp
   rw [e]; exact If.aaO a1 a2 (by omega)
  ·obtain ⟨a1, a2, _⟩ := Ig.root hp
   rw [e]; exact Ig.aaO a1 a2 (by omega)
 ·obtain ⟨k1, k2⟩ := hκ i hi
  refine ⟨cu (bR F (ex F (nth (gS sF nF F) k))) (bR (nth B i).1 (ex (nth B i).1 (nth B i).2)), ?_, FW.trans ⟨fun h => inj k1 hk fun t => (k2 t).symm.trans (h t).symm, fun h t => by rw [k2, h]⟩⟩
  rcases mB (bK hi) with ⟨p, hp, e⟩ | ⟨p, hp, e⟩
  ·rw [e]; exact C I If (Nat.le_refl _) h1 (Nat.le_refl _) h3 hF (GD k hk) hp
  ·rw [e]; exact C I Ig (Nat.le_refl _) h2 (Nat.le_refl _) h4 hF (GD k hk) hp
 ·have hk : k < B.length := by omega
  obtain ⟨k1, k2⟩ := hκ i hi
  obtain ⟨k3, k4⟩ := hκ k hk
  refine ⟨cu (bR (nth B k).1 (ex (nth B k).1 (nth B k).2)) (bR (nth B i).1 (ex (nth B i).1 (nth B i).2)), ?_, FW.trans ⟨fun h => inj k3 k1 fun t => (k4 t).symm.trans ((h t).trans (k2 t)), fun h t => by rw [k2, k4, h]⟩⟩
  rcases mB (bK hk) with ⟨p, hp, e⟩ | ⟨p, hp, e⟩ <;> rcases mB (bK hi) with ⟨q, hq, e'⟩ | ⟨q, hq, e'⟩ <;> rw [e, e']
  ·exact C If If h1 h1 h3 h3 hf hp hq
  ·exact C If Ig h1 h2 h3 h4 hf hp hq
  ·exact C Ig If h2 h1 h4 h3 hg hp hq
  ·exact C Ig Ig h2 h2 h4 h4 hg hp hq
 ·have key : ∃ x, x ∈ B ∧ ∀ t, bR x.1 (ex x.1 x.2) t ↔ bR F (ex F (nth (gS sF nF F) k)) t := by
   rcases N7 I If Ig hmu hk with ⟨i, hi, h5⟩ | ⟨i, hi, h5⟩
   ·rw [dW hi, dW hk] at h5
    exact ⟨(f, nth (gS sf nf f) i), by rw [hB]; exact List.mem_append.2 (.inl (List.mem_map.2 ⟨_, bK hi, rfl⟩)), h5⟩
   ·rw [dW hi, dW hk] at h5
    exact ⟨(g, nth (gS sg ng g) i), by rw [hB]; exact List.mem_append.2 (.inr (List.mem_map.2 ⟨_, bK hi, rfl⟩)), h5⟩
  obtain ⟨x, hx, h5⟩ := key
  obtain ⟨i, hi, rfl⟩ := F7 hx
  obtain ⟨k1, k2⟩ := hκ i hi
  exact ⟨i, hi, inj k1 hk fun t => (k2 t).symm.trans (h5 t)⟩
theorem qQ (l m : List Int) (hb : ∀ x ∈ l, -9223372036854775808 ≤ x ∧ x < 9223372036854775808) (hl : l.length < 9223372036854775808) (wV : ∀ x ∈ m, -9223372036854775808 ≤ x ∧ x < 9223372036854775808) (hl' : m.length < 9223372036854775808) :
  aL env.P 6 [aJ aF l, aJ aF m] (.bool true) := by
 have hA := JV l hl hb 3 (by decide)
 have hB := JV m hl' wV 3 (by decide)
 obtain ⟨a1, a2⟩ := QY l 3
 obtain ⟨b1, b2⟩ := QY m 3
 have a0 := (FK l 3).1
 have b0 := (FK m 3).1
 generalize made l 3 = a at *
 generalize made m 3 = b at *
 have e1 : 3 * 9 ^ 3 = 2187 := by decide
 have e2 : (2 : Nat) ^ 12 = 4096 := by decide
 have e3 : (2 : Nat) ^ 23 = 8388608 := by decide
 rw [e1] at a1 b1
 have ba : BZ 12 4 a := BZ.aaH (by omega) a2
 have bb : BZ 12 4 b := BZ.aaH (by omega) b2
 have fH : n1 (a * b) ≤ 2187 * 2187 := Nat.le_trans (FZ a b) (Nat.mul_le_mul a1 b1)
 have bab : BZ 23 7 (a * b) := BZ.aaH (by omega) (by rw [ZX.kB a0 b0]; omega)
 have ab0 := ZX.kZ a0 b0
 have La : uL 12 4 a := ⟨ba, by decide, by decide, by decide⟩
 have Lb : uL 12 4 b := ⟨bb, by decide, by decide, by decide⟩
 have Lab : uL 23 7 (a * b) := ⟨bab, by decide, by decide, by decide⟩
 have m2 : aL env.P 39 [Po a.l, Po b.l] (Po (a * b).l) := uX (JM ba) (JM bb) (by decide)
 have I := N4 Lab ab0 (by decide) (by decide) (by decide)
 have If := N4 La a0 (by decide) (by decide) (by decide)
 have Ig := N4 Lb b0 (by decide) (by decide) (by decide)
 obtain ⟨κ, P⟩ := apl I If Ig (fun p hp => by
  rw [(FQ ab0).2 p hp, (FQ a0).2 p hp, (FQ b0).2 p hp, pK hp a0 b0]
  omega) (by decide) (by decide) (by decide) (by decide) (by decide) (by decide) (by decide) (by decide) (by decide)
 exact BR P hA hB (FL ba (by decide) (by decide)) (FL bb (by decide) (by decide)) m2 (nW (k7 Lab) I) (nW (k7 La) If) (nW (k7 Lb) Ig)
end Go.Proofs.YtbbjgncblhfegaaGreat
set_option linter.unusedSimpArgs false
set_option linter.unusedVariables false
namespace Go.Proofs.YtbbjgncblhfegaaGreat.isolateProducts
open Go Pm Go.ChangeShapes Go.WideShapes Go.ChangeAt Go.RowKit
theorem aeh : GG Tryz.prog 3 (fun ps => ∃ n : Int, ps = aF n ∧ -9223372036854775808 ≤ n ∧ n < 9223372036854775808) :=
  (GG.int .i64 (by kernel_rfl)).mono fun ps ⟨n, h1, h2, h3⟩ => ⟨n, h1, by simpa [IntKind.min, IntKind.signed, IntKind.bits] using h2, by simp [IntKind.max, IntKind.signed, IntKind.bits] at h3; omega⟩
theorem KC : uW Tryz.prog 22 (fun q => ∃ l : List Int, q = aJ aF l ∧ (∀ x ∈ l, -9223372036854775808 ≤ x ∧ x < 9223372036854775808) ∧ l.length < 9223372036854775808) :=
  (uW.slice (e := 3) (by kernel_rfl) (by rw [show Tryz.prog.cellsOf 3 = 1 by kernel_rfl]; decide) aeh).mono fun q ⟨l, h1, h2, h3⟩ => by
    obtain ⟨m, rfl, hm⟩ := maps (g := aF) (Q := fun n => -9223372036854775808 ≤ n ∧ n < 9223372036854775808) (fun ps h => h) h2
    exact ⟨m, h1, hm, by rw [List.length_map] at h3; simp only [maxLen] at h3; omega⟩
set_option maxRecDepth 100000 in
theorem lifted (os : Os) (started : os.Started) (H : Type) (enc : TypeId × Value → H) :
    ReturnsInHanded {} Tryz.checked os 6 .any (Rows.isolateProductsSpec.pre6 enc Tryz.prog Tryz.f6 Rows.isolateProductsRow.domain false) (Rows.isolateProductsSpec.post enc Tryz.prog Tryz.f6 false true false false) := by
  refine X7 (C := Tryz.checked) (Qs := [fun q => ∃ l : List Int, q = aJ aF l ∧ (∀ x ∈ l, -9223372036854775808 ≤ x ∧ x < 9223372036854775808) ∧ l.length < 9223372036854775808, fun q => ∃ l : List Int, q = aJ aF l ∧ (∀ x ∈ l, -9223372036854775808 ≤ x ∧ x < 9223372036854775808) ∧ l.length < 9223372036854775808]) (tb := 4) own laidOut started (by kernel_rfl) Tryz.func6
    (ChangeSpec.witness6 (enc := enc) (C := Tryz.checked) false ⟨#[], #[.slice none 0 0, .slice none 0 0], []⟩ 16 (by kernel_rfl) (by kernel_rfl) (by kernel_rfl) (by kernel_rfl)) rfl ?_ (by kernel_rfl) (by kernel_rfl) ?_ ?_
  · intro ds h
    rw [show Tryz.f6.params.size = 2 by kernel_rfl] at h
    match ds, h with
    | [_, _], _ => rfl
  · rw [show Tryz.f6.params.toList = [22, 22] by kernel_rfl]
    exact ⟨KC, by kernel_rfl, of_decide_eq_true (by kernel_rfl), KC, by kernel_rfl, of_decide_eq_true (by kernel_rfl), trivial⟩
  · rintro ps h
    obtain ⟨_, _, rfl, ⟨a0, rfl, h0, g0⟩, ⟨_, _, rfl, ⟨a1, rfl, h1, g1⟩, rfl⟩⟩ := h
    exact qQ a0 a1 h0 g0 h1 g1
theorem z1 : (Rows.isolateProductsRow.inPlace == Tryz.pinned.checked.prog.inPlace 6) = true := by kernel_rfl
theorem z2 : (Rows.isolateProductsRow.unfollowed == Tryz.pinned.checked.prog.unfollowed 6) = true := by kernel_rfl
theorem z3 : (Rows.isolateProductsRow.recurses == Tryz.pinned.checked.prog.recurses 6) = true := by kernel_rfl
theorem z4 : (Rows.isolateProductsRow.named == Tryz.pinned.checked.prog.varsNamed 6) = true := by kernel_rfl
theorem closed : joinedFacts Tryz.pinned.checked.prog 6 Tryz.f6 Rows.isolateProductsSpec Rows.isolateProductsRow = true := by
  unfold joinedFacts
  rw [z1, z2, z3, z4]
  kernel_rfl
theorem proved : Rows.IsolateProductsSaid :=
  OpenClaim.holds_of_wide 6 Tryz.f6 rfl rfl rfl rfl rfl rfl rfl ⟨rfl, rfl, rfl, rfl, rfl⟩ rfl rfl rfl rfl rfl (by kernel_rfl) Tryz.func6 closed
    (of_decide_eq_true (by kernel_rfl)) (by unfold Func.isWrapper; first | (rw [if_pos (by decide +kernel)]; kernel_rfl) | (rw [if_neg (by decide +kernel)]; exact ⟨rfl, rfl⟩))
    (fun os started H enc _ => lifted os started H enc)
#print axioms proved
end Go.Proofs.YtbbjgncblhfegaaGreat.isolateProducts
