import Derived.Test.YtbbjgncblhfegaaGreatRan
import Derived.Test.YtbbjgncblhfegaaGreatRao
set_option linter.unusedSimpArgs false
set_option linter.unusedVariables false
namespace Go.Proofs.YtbbjgncblhfegaaGreat
open Go Pm
open ZX hiding N W
theorem aaO {a : ZX} (ha : a ≠ 0) : Nf (sq a) ∧ dv (sq a) (nf a) := by
 have nA := eV ha
 unfold sq
 split
 ·exact ⟨nA, dv.refl _⟩
 ·exact ⟨(eQ nA 0).1, xR nA 0⟩
theorem oO.sqb {s n : Nat} {a : ZX} (h : oO s n a) (ha : a ≠ 0) : BZ (qb s n) n (sq a) := h.nfz.dv (eV ha) (aaO ha).1 (aaO ha).2
theorem oO.ch {s n : Nat} {a : ZX} (h : oO s n a) (ha : a ≠ 0) (tS : 1 ≤ n) : Ch (qb s n) n (sq a) := ⟨h.sqb ha, h.hn, tS, Nat.le_trans (Nat.mul_le_mul_right _ (by omega)) h.hC⟩
theorem N9 {s n : Nat} {a : ZX} (h : oO s n a) (ha : a ≠ 0) (tS : 1 ≤ n) (h1 : 1 ≤ s) : aK env.P 57 [PI a.l] (aI zq (bC (sq a))) :=
 wS (tU h h1) (h.ch ha tS) (by unfold qb; omega)
section
variable {x : List Int} {C : List ZX} {n d : Int}
end
def aeo (n d : Int) : Nat → ZX → Int
 | 0, _ => 0
 | k + 1, p => if xE p.l n d = 0 then aeo n d k (bM p) else xE p.l n d
def aft (n d : Int) (p : ZX) : Int := aeo n d (ZX.N p) p
end Go.Proofs.YtbbjgncblhfegaaGreat
namespace Pm
open Go Go.RowKit
def U6 (E : Env) (o : Oper) (K : PS → Prop) (σ : PS) : Prop :=
 match o.op with
 | .build t ⟨[(0, x)]⟩ => E.ty t = .struct [(0, 1, false)] (E.ty t).zero ∧ (E.ty t).zero.length = 1 ∧ bO (aQ σ.f x) = some [aQ σ.f x] ∧ gS σ.rows (aQ σ.f x) ∧ K (σ.put o.dst (.ag [aQ σ.f x]))
 | _ => False
section
variable {E : Env} {w0 : World} {S0 : c9} {m : Nat} {G : Gs}
theorem OA {o : Oper} {a : Act} {w : World} {σ : PS} {K : PS → Prop} (h : U6 E o K σ) (hR : Rel w0 S0 m G σ a w) (hd : ∀ t, o.dst = some t → t < m)
  {K' : Act → World → Prop} {Q : Exit → Act → World → Prop} (hK : ∀ σ' a' w', K σ' → Rel w0 S0 m G σ' a' w' → K' a' w') : o.wp E.P a w K' Q := by
 obtain ⟨⟨c, rfl, hr, eY, hI, hf, hG⟩, hn, eI⟩ := hR
 have hρ := kI hf
 obtain ⟨dst, op, type, pos, after, guard⟩ := o
 simp only at hd
 unfold U6 at h
 simp only at h
 split at h
 ·rename_i t x
  obtain ⟨hE, ED, hc, ho, hk⟩ := h
  rw [← hr] at ho
  obtain ⟨g1, g2⟩ := kU (hρ x) hc (fun q hq => by simp at hq; subst hq; exact ho)
  have ht := E.ok t
  rw [hE] at ht
  obtain ⟨⟨fields, hu, ha⟩, hz⟩ := ht
  obtain ⟨i, zv, hi, hzv, _, LK, _⟩ := hz.ok
  have BB : zv.cells.size = 1 := by
   have : (zv.cells.toList.map iA).length = 1 := by rw [LK]; exact ED
   simpa using this
  have GY : (a.eval x).cells.size = 1 := by have := g1.length; simpa using this.symm
  have CA := nG 0 (a.eval x).cells.toList 0 zv.cells (by simp; omega)
  have hl : ((a.eval x).cells.toList.zipIdx 0).foldl (fun cs (x : Value × Nat) => cs.setIfInBounds (0 + x.2) x.1) zv.cells = (a.eval x).cells := by
   apply Array.toList_inj.1
   rw [CA]
   have h1 : (a.eval x).cells.toList.length = 1 := by simpa using GY
   have h2 : zv.cells.toList.length = 1 := by simpa using BB
   rw [h1]
   simp [List.drop_of_length_le, h2]
  have iX : (execOp a.eval { dst := dst, op := .build t ⟨[(0, x)]⟩, type := type, pos := pos, after := after, guard := guard }).run E.P c.w = .ok (.value (.agg (a.eval x).cells)) c.w := by
   have agK : Instr.fill (fun x => (([(0, 1, false)] : List (Nat × Nat × Bool)).toArray.map fun x => (x.1, x.2.1))[x]?) zv.cells [(0, a.eval x)] = some (a.eval x).cells := by
    have O9 : (([(0, 1, false)] : List (Nat × Nat × Bool)).toArray.map fun x => (x.1, x.2.1))[0]? = some (0, 1) := by simp
    simp only [Instr.fill, O9]
    rw [if_neg (by simp [GY, BB])]
    have hz3 : (a.eval x).cells.toList.zipIdx = (a.eval x).cells.zipIdx.toList := by simp
    have h5 : (a.eval x).cells.zipIdx.foldl (fun cs (x : Value × Nat) => cs.setIfInBounds (0 + x.2) x.1) zv.cells = (a.eval x).cells := by
     rw [← Array.foldl_toList, ← hz3]; exact hl
    simp only [h5]
   simp only [execOp, Instr.build, zeroValue, typeInfo, program, Sem.run_bind, Sem.run, hi, hzv, Sem.run_pure, Result.andThen_ok, run_underlying hu, run_places ha]
   simp at agK
   simp [agK]
  unfold Oper.wp
  rw [iX]
  refine hK _ _ _ hk ?_
  exact lP hf hG hn eI (rG.refl c) hI (show aJ c (.ag [aQ σ.f x]) (.agg (a.eval x).cells) from ⟨(a.eval x).cells.toList, by simp, g1⟩) hd rfl (by simp [PS.put, hr]) eY
 ·exact h.elim
end
theorem W.ajL {E : Env} {n : Nat} {tl : Nat → Nat} {Q : PX → PS → Prop} {σ : PS} {id : Nat} {ops : List Oper} {y : Code} (i : Nat) {o o2 : Oper} (ho : ops = ops.take i ++ o :: o2 :: ops.drop (i + 2)) (hg : o.guard = none) (mG : o2.guard = none)
  (h : ∀ K : PS → Prop, (∀ σ, W E n tl y Q σ → K σ) → go (aL E ops (ops.take i) (fun σ => BW E o (fun σ => U6 E o2 (aL E ops (ops.drop (i + 2)) K) σ) σ) σ)) : W E n tl (.seq (.region id ops.toArray false) y) Q σ := by
 refine W.seq ?_
 intro fJ w0 S0 G a w Q' hR hQ
 simp only [dY, oZ, Bool.and_eq_true] at fJ
 have hd : ∀ o ∈ ops, ∀ t, o.dst = some t → t < n := fun o ho t ht => by
  have := Array.all_eq_true_iff_forall_mem.1 fJ.1 o (by simpa using ho)
  simpa [ht] using this
 refine wp_region_list ?_
 show wpList E.P ops.toArray Q' ops a w
 have h1 := h (fun σ => W E n tl y Q σ) fun _ h => h
 have rM : o ∈ ops := by rw [ho]; simp
 have apl : o2 ∈ ops := by rw [ho]; simp
 have := l8 (E := E) (w0 := w0) (S0 := S0) (m := n) (G := G) (ops := ops.toArray) (Q := Q') (l2 := o :: o2 :: ops.drop (i + 2)) (K := fun σ => BW E o (fun σ => U6 E o2 (aL E ops (ops.drop (i + 2)) (fun σ => W E n tl y Q σ)) σ) σ) (fun σ' a' w' hl j1 => by
  unfold wpList
  rw [if_pos (by simp [Region.wanted, hg])]
  refine .inl (sA hl j1 (hd o rM) fun σ2 a2 w2 hk hR2 => ?_)
  unfold wpList
  rw [if_pos (by simp [Region.wanted, mG])]
  refine .inl (OA hk hR2 (hd o2 apl) fun σ3 a3 w3 hk3 hR3 => ?_)
  exact fT (E := E) (ops := ops.toArray) (fun σ4 a4 w4 hk4 hR4 => hQ .normal σ4 a4 w4 hk4 hR4) _ σ3 a3 w3 (fun o ho => hd o (List.mem_of_mem_drop ho)) hk3 hR3) (ops.take i) σ a w (fun o ho => hd o (List.mem_of_mem_take ho)) h1 hR
 rwa [← ho] at this
@[simp] theorem ard {E : Env} {K : PS → Prop} {f : Nat → PV} {rows : Rows} {clk : Nat} {d : Option Tmp} {ty : TypeId} {pos : String} {af : Array Edge} {t : TypeId} {x : Operand} :
  U6 E ⟨d, .build t ⟨[(0, x)]⟩, ty, pos, af, none⟩ K ⟨f, rows, clk⟩ = aH (E.ty t = .struct [(0, 1, false)] (E.ty t).zero ∧ (E.ty t).zero.length = 1) (eJ (bO (aQ f x)) fun l => aH (l = [aQ f x] ∧ fU rows [aQ f x]) (K ⟨put f d (.ag [aQ f x]), rows, clk⟩)) := by
 simp only [U6, aH, eJ, fU, PS.put]
 apply propext
 constructor
 ·rintro ⟨h1, h2, h3, h4, h5⟩; exact ⟨⟨h1, h2⟩, _, h3, ⟨rfl, by simpa using h4⟩, h5⟩
 ·rintro ⟨⟨h1, h2⟩, l, h3, ⟨rfl, h4⟩, h5⟩; exact ⟨h1, h2, h3, by simpa using h4, h5⟩
end Pm
namespace Go.Proofs.YtbbjgncblhfegaaGreat
open Go Pm
theorem BZ.apm {s s' n n' m : Nat} {a c : ZX} (b : BZ s n a) (b' : BZ s' n' c) (hm : ZX.N (a * c) ≤ m) : BZ (s + s' + n') m (a * c) := by
 have h := Bd.bH (by decide) b' b
 rw [uV] at h
 exact ⟨hm, fun d hd => Nat.le_trans (h.sz d hd) (by omega)⟩
theorem aaP {f : ZX} (hf : f ≠ 0) (bf : BZ 3 3 f) : ∀ k, 1 ≤ k → BZ (6 * k) (2 * k + 1) (f ^ k) ∧ f ^ k ≠ 0 ∧ ZX.N (f ^ k) = k * (ZX.N f - 1) + 1
 | 0, h => by omega
 | 1, _ => by
  have e : f ^ 1 = f := by rw [ZX.pow_succ', ZX.dZ]; grind
  rw [e]
  have := ZX.aG.1 hf
  exact ⟨bf.mono (by omega) (by omega), hf, by omega⟩
 | k + 2, _ => by
  obtain ⟨h1, h2, h3⟩ := aaP hf bf (k + 1) (by omega)
  have hN := ZX.aG.1 hf
  have e : ZX.N (f ^ (k + 2)) = (k + 2) * (ZX.N f - 1) + 1 := by
   rw [ZX.pow_succ', ZX.jH h2 hf, h3, Nat.add_mul, Nat.add_mul]; omega
  have hl : ZX.N f ≤ 3 := bf.N
  refine ⟨?_, ZX.fF h2 hf, e⟩
  have h4 := BZ.apm h1 bf (m := 2 * (k + 2) + 1) (by
   rw [← ZX.pow_succ', e]
   have : (k + 2) * (ZX.N f - 1) ≤ (k + 2) * 2 := Nat.mul_le_mul_left _ (by omega)
   omega)
  rw [ZX.pow_succ']
  exact h4.mono (by omega) (Nat.le_refl _)
theorem OB {x : List Int} (hx : x ≠ []) (hl : x.length ≤ 3) (hc : ∀ c ∈ x, c.natAbs < 8) (Q6 : x.getLast hx ≠ 0) : BZ 3 3 (ZX.of x) ∧ (ZX.of x).l = x ∧ ZX.of x ≠ 0 := by
 have h1 : aM x = x := by
  obtain ⟨y, z, rfl⟩ : ∃ y z, x = y ++ [z] := ⟨x.dropLast, x.getLast hx, (List.dropLast_concat_getLast hx).symm⟩
  exact i4 (by simpa using Q6) y
 have h2 : (ZX.of x).l = x := h1
 refine ⟨⟨by rw [h2]; exact hl, fun c NN => ?_⟩, h2, ZX.aG.2 ?_⟩
 ·rw [h2] at NN
  exact cO (by decide) (by have := hc c NN; show _ < 8; exact this)
 ·show 0 < (ZX.of x).l.length
  rw [h2]; exact List.length_pos_iff.2 hx
def fI (l : List Int) (i : Nat) : List Int :=
 if (nth l i).tmod 5 = 3 then [-(nth l i % 9 - 4), nth l (i + 2) % 3 - 1, nth l (i + 1) % 5 + 1] else [-(nth l i % 9 - 4), nth l (i + 1) % 5 + 1]
def pP (l : List Int) (i : Nat) : Nat := 1 + (nth l (i + 2) % 3).toNat
def tY (l : List Int) (most i : Nat) (p : ZX) : ZX := if most < ZX.N p - 1 + pP l i * (ZX.N (ZX.of (fI l i)) - 1) then p else p * ZX.of (fI l i) ^ pP l i
def c7 (l : List Int) (most : Nat) : Nat → ZX
 | 0 => 1
 | j + 1 => tY l most (3 * j) (c7 l most j)
def made (l : List Int) (most : Nat) : ZX := if (0 < l.length ∧ (nth l 0).tmod 7 = 6) then ZX.K (-3) * c7 l most (min 6 (l.length / 3)) else c7 l most (min 6 (l.length / 3))
theorem x6 (l : List Int) (i : Nat) : BZ 3 3 (ZX.of (fI l i)) ∧ (ZX.of (fI l i)).l = fI l i ∧ ZX.of (fI l i) ≠ 0 := by
 have h9 := Int.emod_nonneg (nth l i) (show (9 : Int) ≠ 0 by decide)
 have h9' := Int.emod_lt_of_pos (nth l i) (show (0 : Int) < 9 by decide)
 have h5 := Int.emod_nonneg (nth l (i + 1)) (show (5 : Int) ≠ 0 by decide)
 have h5' := Int.emod_lt_of_pos (nth l (i + 1)) (show (0 : Int) < 5 by decide)
 have h3 := Int.emod_nonneg (nth l (i + 2)) (show (3 : Int) ≠ 0 by decide)
 have h3' := Int.emod_lt_of_pos (nth l (i + 2)) (show (0 : Int) < 3 by decide)
 unfold fI
 split
 ·refine OB (by simp) (by simp) (fun c hc => ?_) (by simp; omega)
  simp only [List.mem_cons, List.not_mem_nil, or_false] at hc
  rcases hc with rfl | rfl | rfl <;> omega
 ·refine OB (by simp) (by simp) (fun c hc => ?_) (by simp; omega)
  simp only [List.mem_cons, List.not_mem_nil, or_false] at hc
  rcases hc with rfl | rfl <;> omega
theorem F3 (l : List Int) (i : Nat) : 1 ≤ pP l i ∧ pP l i ≤ 3 := by
 have h3 := Int.emod_nonneg (nth l (i + 2)) (show (3 : Int) ≠ 0 by decide)
 have h3' := Int.emod_lt_of_pos (nth l (i + 2)) (show (0 : Int) < 3 by decide)
 unfold pP; omega
theorem aaQ {l : List Int} {most i s : Nat} {p : ZX} (hp : p ≠ 0) (b : BZ s (most + 1) p) : tY l most i p ≠ 0 ∧ BZ (s + 25) (most + 1) (tY l most i p) := by
 obtain ⟨b1, b2, b3⟩ := x6 l i
 obtain ⟨e1, e2⟩ := F3 l i
 obtain ⟨h1, h2, h3⟩ := aaP b3 b1 _ e1
 unfold tY
 split
 ·exact ⟨hp, b.mono (by omega) (Nat.le_refl _)⟩
 ·rename_i h
  have hN := ZX.aG.1 hp
  refine ⟨ZX.fF hp h2, (BZ.apm b h1 (m := most + 1) (by rw [ZX.jH hp h2, h3]; omega)).mono (by omega) (Nat.le_refl _)⟩
theorem lI (l : List Int) (most : Nat) : ∀ j, c7 l most j ≠ 0 ∧ BZ (1 + 25 * j) (most + 1) (c7 l most j)
 | 0 => ⟨ZX.r6, by show (1 : ZX).l.length ≤ most + 1; exact Nat.succ_le_succ (Nat.zero_le _), fun c hc => by
  have h1 : (1 : ZX).l = [1] := by decide
  have V9 : c ∈ (1 : ZX).l := hc
  rw [h1] at V9
  simp at V9; subst V9
  exact cO (by decide) (by decide)⟩
 | j + 1 => by
  obtain ⟨h1, h2⟩ := lI l most j
  obtain ⟨h3, h4⟩ := aaQ (l := l) (i := 3 * j) h1 h2
  exact ⟨h3, h4.mono (by omega) (Nat.le_refl _)⟩
theorem x7 (l : List Int) (most : Nat) : made l most ≠ 0 ∧ BZ 153 (most + 1) (made l most) := by
 obtain ⟨h1, h2⟩ := lI l most (min 6 (l.length / 3))
 unfold made
 split
 ·refine ⟨ZX.fF (ZX.r5 (by decide)) h1, ?_⟩
  rw [BZ, K_l (by decide)]
  exact ⟨by have := h2.len; simpa using this, fun c hc => by
   simp only [List.mem_map] at hc
   obtain ⟨d, hd, rfl⟩ := hc
   exact Nat.le_trans (bR (by decide) (h2.sz d hd) (cO (k := 2) (by decide) (by decide))) (by omega)⟩
 ·exact ⟨h1, h2.mono (by omega) (Nat.le_refl _)⟩
theorem AQ (l : List Int) (hl : l.length < 9223372036854775808) (hb : ∀ x ∈ l, -9223372036854775808 ≤ x ∧ x < 9223372036854775808) (most : Nat) (hm : most ≤ 100) : aK env.P 20 [aI aD l, .int .i64 most] (PI (made l most).l) := by
 obtain ⟨J, hJ⟩ : ∃ J, J = min 6 (l.length / 3) := ⟨_, rfl⟩
 have gT := pO
 have hmd : made l most = if (0 < l.length ∧ (nth l 0).tmod 7 = 6) then ZX.K (-3) * c7 l most J else c7 l most J := by rw [hJ]; rfl
 rw [hmd]
 have h0 : (1 : ZX).l = (c7 l most 0).l := rfl
 rw [h0] at gT
 generalize hg0 : (c7 l most 0).l = g0 at *
 refine aB (E := env) (fun _ => 0) [(0, aI aD l), (1, .int .i64 most)] Tryz.func20 rfl (by kernel_rfl) (by kernel_rfl) (show 2 ≤ 100 by decide) (by simp) ?_
 refine W.sr ?_; simp (disch := omega) [gw]; refine W.lx [0, 1] ?_; simp
 refine W.sr ?_
 simp (disch := omega) [gw]
 refine aA gT ?_
 simp (disch := omega) [gw]
 refine W.lx [0, 1, 5] ?_; simp
 refine W.seq ?_
 refine W.sr ?_; simp (disch := omega) [gw]; refine W.lx [0, 1, 5, 6] ?_; simp
 subst hg0
 refine W.block ?_
 refine W.a8 (fun k σ => ∃ (i j : Nat) (rows : Pm.Rows) (clk : Nat), σ = ⟨fa [(0, aI aD l), (1, .int .i64 most), (5, PI (c7 l most j).l), (6, .int .i64 i)], rows, clk⟩ ∧ i = 3 * j ∧ j + k = J) J ?_ ?_
 ·exact ⟨_, .refl, 0, 0, _, _, rfl, rfl, by omega⟩
 rintro k _ ⟨i, j, rows, clk, rfl, hij, hjk⟩
 refine W.seq ?_
 by_cases hj : j < J
 ·have a1 : (i : Int) + 2 < (l.length : Int) := by omega
  have a2 : (i : Int) < 18 := by omega
  refine W.dB (fun K hK => ?_)
  simp (disch := omega) [gw, a1, a2]
  refine W.lw [0, 1, 5, 6, 21] hK ?_; clear hK K; simp
  refine W.cond ⟨_, rfl, fun h => ?_, fun h => ?_⟩
  rotate_left
  ·cases h
  clear h
  obtain ⟨f1, f2, f3⟩ := x6 l i
  obtain ⟨e1, e2⟩ := F3 l i
  obtain ⟨p1, p2, p3⟩ := aaP f3 f1 _ e1
  obtain ⟨m1, m2⟩ := lI l most j
  have hJ6 : J ≤ 6 := by omega
  have hms : c7 l most (j + 1) = tY l most i (c7 l most j) := by rw [hij]; rfl
  have w1 := rW (nth l i) 9 (hb _ (bN (by omega))) (by decide) (by decide)
  have w2 := rW (nth l (i + 1)) 5 (hb _ (bN (by omega))) (by decide) (by decide)
  have w3 := rW (nth l (i + 2)) 3 (hb _ (bN (by omega))) (by decide) (by decide)
  have bi := hb _ (bN (show i < l.length by omega))
  have h9 := Int.emod_nonneg (nth l i) (show (9 : Int) ≠ 0 by decide)
  have h9' := Int.emod_lt_of_pos (nth l i) (show (0 : Int) < 9 by decide)
  have h5 := Int.emod_nonneg (nth l (i + 1)) (show (5 : Int) ≠ 0 by decide)
  have h5' := Int.emod_lt_of_pos (nth l (i + 1)) (show (0 : Int) < 5 by decide)
  have h3 := Int.emod_nonneg (nth l (i + 2)) (show (3 : Int) ≠ 0 by decide)
  have h3' := Int.emod_lt_of_pos (nth l (i + 2)) (show (0 : Int) < 3 by decide)
  have apn := UT (a := ZX.of (fI l i)) (k := pP l i) (by omega) (fun r hr => by
   rcases Nat.eq_zero_or_pos r with h0 | h0
   ·subst h0
    have h1 : BZ 1 1 (1 : ZX) := (lI l 0 0).2
    exact m7 _ _ _ _ _ _ h1 f1 (by decide)
   ·obtain ⟨q1, _, _⟩ := aaP f3 f1 r h0
    exact m7 _ _ _ _ _ _ q1 f1 (by show _ < 137438953472; omega))
  have hmul := m7 (c7 l most j).l (ZX.of (fI l i) ^ pP l i).l _ _ _ _ m2 p1 (by show _ < 137438953472; omega)
  have hpN : ZX.N (c7 l most j) = (c7 l most j).l.length := rfl
  have hfN : ZX.N (ZX.of (fI l i)) = (fI l i).length := by show (ZX.of (fI l i)).l.length = _; rw [f2]
  have lL : aM (fI l i) = fI l i := f2
  have apo := OB (x := [-(nth l i % 9 - 4), nth l (i + 1) % 5 + 1]) (by simp) (by simp) (fun c hc => by
   simp only [List.mem_cons, List.not_mem_nil, or_false] at hc
   rcases hc with rfl | rfl <;> omega) (by simp; omega)
  have uE : aM [-(nth l i % 9 - 4), nth l (i + 1) % 5 + 1] = [-(nth l i % 9 - 4), nth l (i + 1) % 5 + 1] := apo.2.1
  have of1 := xN [-(nth l i % 9 - 4), nth l (i + 1) % 5 + 1] (by simp) (fun c hc => by
   simp only [List.mem_cons, List.not_mem_nil, or_false] at hc
   rcases hc with rfl | rfl <;> omega)
  rw [uE] at of1
  have of2 : (nth l i).tmod 5 = 3 → aK env.P 80 [.sl [[.int .i64 (-(nth l i % 9 - 4))], [.int .i64 (nth l (i + 2) % 3 - 1)], [.int .i64 (nth l (i + 1) % 5 + 1)]]] (PI (fI l i)) := fun h => by
   have hx : fI l i = [-(nth l i % 9 - 4), nth l (i + 2) % 3 - 1, nth l (i + 1) % 5 + 1] := by unfold fI; rw [if_pos h]
   have := xN (fI l i) (by rw [hx]; simp) (fun c hc => by
    rw [hx] at hc
    simp only [List.mem_cons, List.not_mem_nil, or_false] at hc
    rcases hc with rfl | rfl | rfl <;> omega)
   rw [lL] at this
   rw [hx] at this ⊢
   exact this
  have ahg : ¬ (nth l i).tmod 5 = 3 → fI l i = [-(nth l i % 9 - 4), nth l (i + 1) % 5 + 1] := fun h => by unfold fI; rw [if_neg h]
  replace of1 : aK env.P 80 [.sl [[.int .i64 (-(nth l i % 9 - 4))], [.int .i64 (nth l (i + 1) % 5 + 1)]]] (PI [-(nth l i % 9 - 4), nth l (i + 1) % 5 + 1]) := of1
  have ayP : (fI l i).length = 2 ∨ (fI l i).length = 3 := by unfold fI; split <;> simp
  have hk3 : (pP l i : Int) = 1 + nth l (i + 2) % 3 := by unfold pP; omega
  have hP6 : pP l i * (ZX.N (ZX.of (fI l i)) - 1) ≤ 6 := by
   have : pP l i * (ZX.N (ZX.of (fI l i)) - 1) ≤ 3 * 2 := Nat.mul_le_mul e2 (by rw [hfN]; omega)
   omega
  have hP : (1 + nth l (i + 2) % 3) * (((fI l i).length : Int) - 1) = ((pP l i * (ZX.N (ZX.of (fI l i)) - 1) : Nat) : Int) := by
   rw [hfN, Int.natCast_mul, hk3]
   congr 1
   omega
  have O9 : 0 < (c7 l most j).l.length ∧ (c7 l most j).l.length ≤ most + 1 := ⟨ZX.aG.1 m1, m2.N⟩
  have aeq : c7 l most (j + 1) = if most < (c7 l most j).l.length - 1 + pP l i * (ZX.N (ZX.of (fI l i)) - 1) then c7 l most j else c7 l most j * ZX.of (fI l i) ^ pP l i := by rw [hms, tY, hpN]
  rw [← hk3] at hP
  rw [f2] at apn
  clear hms p1 p2 p3 m1 m2 f1 f2 f3 apo uE lL hpN hfN
  generalize pP l i * (ZX.N (ZX.of (fI l i)) - 1) = PP at *
  generalize hK : pP l i = kk at *
  generalize hpm : bH (c7 l most j).l (ZX.of (fI l i) ^ kk).l = pm at *
  have aui : (c7 l most j * ZX.of (fI l i) ^ kk).l = pm := hpm
  generalize ZX.of (fI l i) ^ kk = Fk at *
  generalize hF : fI l i = F at *
  generalize WD : c7 l most j = P0 at *
  have ei1 : ((i : Int) + 1).toNat = i + 1 := by omega
  have ei2 : ((i : Int) + 2).toNat = i + 2 := by omega
  refine W.skip ?_
  refine W.eK (fun σ => ∃ (rows : Pm.Rows) (clk : Nat), σ = ⟨fa [(0, aI aD l), (1, .int .i64 most), (5, PI (c7 l most (j + 1)).l), (6, .int .i64 i)], rows, clk⟩) ?_ ?_
  ·refine W.sd ?_
   simp (disch := omega) [gw, ei1, ei2]
   refine aA w1 ?_
   simp (disch := omega) [gw, ei1, ei2]
   refine aA w2 ?_
   simp (disch := omega) [gw, ei1, ei2]
   refine aA w3 ?_
   simp (disch := omega) [gw]
   refine W.lx [0, 1, 5, 6, 7, 8, 9] ?_; simp
   refine W.sr ?_
   simp (disch := omega) [gw]
   refine aA of1 ?_
   simp (disch := omega) [gw]
   refine W.lx [0, 1, 5, 6, 7, 8, 9, 10] ?_; simp
   refine W.fV (fun σ => ∃ (rows : Pm.Rows) (clk : Nat), σ = ⟨fa [(0, aI aD l), (1, .int .i64 most), (5, PI P0.l), (6, .int .i64 i), (9, .int .i64 kk), (10, PI F)], rows, clk⟩) ?_ ?_
   ·refine W.sr ?_; simp (disch := omega) [gw]; refine W.lx [0, 1, 5, 6, 7, 8, 9, 10, 54] ?_; simp
    refine W.cond ⟨_, rfl, fun h => ?_, fun h => ?_⟩
    ·have h : (nth l i).tmod 5 = 3 := by simpa using h
     refine W.bY (fun K hK => ?_)
     simp (disch := omega) [gw, ei2]
     refine aA w3 ?_
     simp (disch := omega) [gw]
     refine aA (of2 h) ?_
     simp (disch := omega) [gw]
     exact hK _ ⟨_, aC _ [0, 1, 5, 6, 9, 10], _, _, by rw [hk3]; rfl⟩
    ·have h : ¬ (nth l i).tmod 5 = 3 := by simpa using h
     rw [ahg h]
     refine W.skip ?_
     exact ⟨_, aC _ [0, 1, 5, 6, 9, 10], _, _, by rw [hk3]; rfl⟩
   rintro _ ⟨rows, clk, rfl⟩
   refine W.seq ?_
   refine W.sr ?_; simp (disch := omega) [gw, hP]; refine W.lx [0, 1, 5, 6, 9, 10, 77] ?_; simp
   refine W.cond ⟨_, rfl, fun h => ?_, fun h => ?_⟩
   ·have h : most < P0.l.length - 1 + PP := by simp at h; omega
    rw [if_pos h] at aeq
    rw [aeq]
    refine W.exit ?_; simp only [pX, if_true, if_false, reduceIte, Nat.reduceEqDiff]
    exact ⟨_, aC _ [0, 1, 5, 6], _, _, rfl⟩
   ·have h : ¬ most < P0.l.length - 1 + PP := by simp at h; omega
    rw [if_neg h] at aeq
    rw [aeq, aui]
    refine W.skip ?_
    refine W.bY (fun K hK => ?_)
    simp (disch := omega) [gw]
    refine aA apn ?_
    simp (disch := omega) [gw]
    refine aA hmul ?_
    simp (disch := omega) [gw]
    exact hK _ ⟨_, aC _ [0, 1, 5, 6], _, _, rfl⟩
  rintro _ ⟨rows, clk, rfl⟩
  refine W.bY (fun K hK => ?_); simp (disch := omega) [gw]
  refine hK _ ⟨k - 1, _, aC _ [0, 1, 5, 6], by omega, i + 3, j + 1, _, _, rfl, by omega, by omega⟩
 ·have hjJ : j = J := by omega
  subst hjJ
  refine W.gU (fun σ => ∃ (rows : Pm.Rows) (clk : Nat), σ = ⟨fa [(0, aI aD l), (5, PI (c7 l most j).l), (21, .bool false)], rows, clk⟩) (fun K hK => ?_) ?_
  ·by_cases a1 : (i : Int) + 2 < (l.length : Int)
   ·have a2 : ¬ (i : Int) < 18 := by omega
    simp (disch := omega) [gw, a1, a2]
    exact hK _ _ (aC _ [0, 5, 21]) ⟨_, _, rfl⟩
   ·simp (disch := omega) [gw, a1]
    exact hK _ _ (aC _ [0, 5, 21]) ⟨_, _, rfl⟩
  rintro _ ⟨rows, clk, rfl⟩
  refine W.cond ⟨_, rfl, fun h => ?_, fun h => ?_⟩
  ·cases h
  clear h
  have of3 := xN [-3] (by decide) (by decide)
  replace of3 : aK env.P 80 [.sl [[.int .i64 (-3)]]] (PI [-3]) := of3
  obtain ⟨m1, m2⟩ := lI l most j
  have hsc := I7 (c7 l most j).l (-3) (m2.yy (by show _ ≤ 137438953472; omega) (by omega)) (by show sz 2 (-3) ≤ 137438953472; exact Nat.le_trans (cO (k := 2) (by decide) (by decide)) (by decide))
  have hsl : aV (c7 l most j).l (-3) = (ZX.K (-3) * c7 l most j).l := Cn.ext (Cn.aV _ _) (ZX.K (-3) * c7 l most j).c fun t => by rw [bT, ZX.cU, ZX.tM, Int.mul_comm]
  rw [hsl] at hsc
  refine W.exit ?_; simp only [pX, if_true, if_false, reduceIte, Nat.reduceEqDiff]
  refine W.fV (fun σ => ∃ (rows : Pm.Rows) (clk : Nat), σ = ⟨fa [(5, PI (if (0 < l.length ∧ (nth l 0).tmod 7 = 6) then ZX.K (-3) * c7 l most j else c7 l most j).l)], rows, clk⟩) ?_ ?_
  ·by_cases vP : 0 < l.length
   ·by_cases h7 : (nth l 0).tmod 7 = 6
    ·rw [if_pos ⟨vP, h7⟩]
     have b7 : ((nth l 0).tmod 7 == 6) = true := by simpa using h7
     refine W.sr ?_
     simp (disch := omega) [gw, vP, b7, h7]
     refine W.lx [5, 92] ?_; simp
     refine W.cond ⟨_, rfl, fun h => ?_, fun h => ?_⟩
     ·refine W.bY (fun K hK => ?_)
      simp (disch := omega) [gw]
      refine aA of3 ?_
      simp (disch := omega) [gw]
      refine aA hsc ?_
      simp (disch := omega) [gw]
      exact hK _ ⟨_, aC _ [5], _, _, rfl⟩
     ·cases h
    ·rw [if_neg (fun h => h7 h.2)]
     have b7 : ((nth l 0).tmod 7 == 6) = false := by simpa using h7
     refine W.sr ?_
     simp (disch := omega) [gw, vP, b7, h7]
     refine W.lx [5, 92] ?_; simp
     refine W.cond ⟨_, rfl, fun h => ?_, fun h => ?_⟩
     ·cases h
     ·refine W.skip ?_
      exact ⟨_, aC _ [5], _, _, rfl⟩
   ·rw [if_neg (fun h => vP h.1)]
    have hl1 : l.length = 0 := by omega
    refine W.sr ?_
    simp (disch := omega) [gw, hl1]
    refine W.lx [5, 92] ?_; simp
    refine W.cond ⟨_, rfl, fun h => ?_, fun h => ?_⟩
    ·cases h
    ·refine W.skip ?_
     exact ⟨_, aC _ [5], _, _, rfl⟩
  rintro _ ⟨rows, clk, rfl⟩
  refine W.sr ?_; simp (disch := omega) [gw]; refine W.lx [4] ?_; simp
  refine W.ret ?_
  simp [go]
theorem BZ.z {h n : Nat} {a : ZX} (b : BZ h n a) (hh : h < 1099511627776) : ∀ c ∈ a.l, Z c := fun c hc => Nat.lt_of_le_of_lt (b.sz c hc) hh
theorem x8 {h n : Nat} {a : ZX} (b : BZ h n a) (hh : h < 1099511627776) (hn : n < 1099511627776) : aK env.P 22 [PI a.l] (Po a.l) := ad4 a.l (b.z hh) (Nat.lt_of_le_of_lt b.len hn)
theorem apq {a b : ZX} (ha : a ≠ 0) (hb : Nf b) (h : ∀ p, ZX.nX p → ZX.mu p b = min (ZX.mu p a) 1) : sq a = b := by
 have nA := eV ha
 have e : sq a = sz' (nf a) := by
  unfold sq
  split
  ·rename_i h2
   have h3 : nf a = 1 := nA.N1 (by rw [BV]; exact h2)
   rw [h3]
   show 1 = wz 1 0
   rw [wz]
   show 1 = qz 1 (gd 1)
   rw [aas, Nf.one.self]
  ·rfl
 rw [e]
 exact Nf.AG (aat nA) hb fun p hp => by rw [aau nA hp, AF hp ha, h p hp]
theorem AR {a : ZX} {n : Nat} (hn : a.l.length ≤ n) (hc : ∀ c ∈ a.l, c.natAbs < 8) : BZ 3 n a := ⟨hn, fun c h => cO (by decide) (by have := hc c h; show _ < 8; exact this)⟩
end Go.Proofs.YtbbjgncblhfegaaGreat
namespace Go.Proofs.YtbbjgncblhfegaaGreat
open Go Pm
open ZX hiding N W
theorem RK {a : ZX} (h : 2 ≤ ZX.N a) : nth (bM a).l (ZX.N a - 2) = lead a.l * ((ZX.N a - 1 : Nat) : Int) := by
 have h1 : a.l.length = ZX.N a := rfl
 have h2 : nth (bM a).l (ZX.N a - 2) = nth a.l (ZX.N a - 1) * ((ZX.N a - 1 : Nat) : Int) := by
  show nth (aM (uZ a.l)) _ = _
  rw [gV, uZ, cS (by simp; omega)]
  simp only [List.getElem_map, List.getElem_range]
  rw [show ZX.N a - 2 + 1 = ZX.N a - 1 by omega]
 rw [h2, lead, h1]
theorem aaR {a : ZX} (h : 2 ≤ ZX.N a) : ZX.N (bM a) = ZX.N a - 1 := by
 have h1 := l6 a
 have h2 := RK h
 have hl := cB a.c (show 0 < a.l.length from by have : a.l.length = ZX.N a := rfl; omega)
 have h3 : nth (bM a).l (ZX.N a - 2) ≠ 0 := by rw [h2]; exact Int.mul_ne_zero hl (by omega)
 rcases Nat.lt_or_ge (ZX.N a - 2) (bM a).l.length with h4 | h4
 ·have : ZX.N (bM a) = (bM a).l.length := rfl
  omega
 ·exact absurd (fW h4) h3
theorem aaS {a : ZX} (h : 2 ≤ ZX.N a) : lead (bM a).l = lead a.l * ((ZX.N a - 1 : Nat) : Int) := by
 rw [← RK h, lead, show (bM a).l.length = ZX.N (bM a) from rfl, aaR h, show ZX.N a - 1 - 1 = ZX.N a - 2 by omega]
theorem U7 {a : ZX} (h : ZX.N a ≤ 1) : bM a = 0 := by
 refine Classical.byContradiction fun h0 => ?_
 have h1 := ZX.aG.1 h0
 have := l6 a
 omega
theorem aer {f : ZX} (hf : Nf f) : pK (bM f).l = (oI (bM f)).l := by
 have h : ¬ lead (bM f).l < 0 := by
  rcases Nat.lt_or_ge (ZX.N f) 2 with h2 | h2
  ·rw [U7 (by omega)]; decide
  ·rw [aaS h2]
   have := Int.mul_nonneg (Int.le_of_lt hf.l) (show (0 : Int) ≤ ((ZX.N f - 1 : Nat) : Int) by omega)
   omega
 show _ = iT (bM f).l
 rw [JG, if_neg h]
theorem RL {α : Type} {g : α → List PV} {l : List α} {s n : Nat} {f : ZX} (hS : aK env.P 83 [aI g l] (Po f.l)) (h : Ch s n f) (hf : Nf f) : aK env.P 82 [aI g l] (.eA [CH (bC f), .int .i64 0]) := by
 have hn := h.hn
 have hp := h.pot
 have hs := hp.le
 have bd : BZ (s + 5) n (bM f) := h.bz.bM (by omega)
 have d1 := r7 h.bz (by omega) (by omega)
 have d2 := rF ((bM f).l.map qR) (bd.BU (by omega) (by omega)) (s := s + 5) (n := n) (by rw [bP]; exact xD bd) (by omega) (by omega)
 rw [wQ, ← gW, aer hf] at d2
 have b2 : BZ (s + 5) n (oI (bM f)) := gX bd
 have b1 : BZ (s + 5) n f := h.bz.mono (by omega) (Nat.le_refl _)
 have ND : ZX.N (oI (bM f)) ≤ ZX.N f := Nat.le_trans (j6 _) (Nat.le_trans (l6 f) (by omega))
 have hc : bC f = f :: sB (ZX.N f) f (oI (bM f)) := rfl
 rw [AM ND (Nat.le_refl _)] at hc
 have hf0 : f.l.length ≠ 0 := by have := ZX.aG.1 hf.ne; exact Nat.pos_iff_ne_zero.1 this
 have hf1 : ¬ f.l = [] := fun h0 => hf0 (by rw [h0]; rfl)
 generalize hC : bC f = C at *
 generalize oI (bM f) = g0 at *
 generalize jT (bM f).l = pc at *
 generalize (bM f).l = dl at *
 refine aB (E := env) (fun _ => 0) [(0, aI g l)] Tryz.func82 rfl (by kernel_rfl) (by kernel_rfl) (show 1 ≤ 48 by decide) (by simp) ?_
 refine W.sr ?_; simp (disch := omega) [gw]; refine W.lx [0] ?_; simp
 refine W.sr ?_
 simp (disch := omega) [gw]
 refine aA hS ?_
 simp (disch := omega) [gw]
 refine W.lx [4] ?_; simp
 refine W.seq ?_
 refine W.sr ?_; simp (disch := omega) [gw]; refine W.lx [4, 14] ?_; simp
 refine W.cond ⟨_, rfl, fun h => ?_, fun h => ?_⟩
 ·simp at h; exact absurd h hf1
 refine W.skip ?_
 refine W.ajL 1 rfl rfl rfl (fun K hK => ?_)
 simp (disch := omega) [gw]
 refine W.lw [4, 5] hK ?_; clear hK K; simp
 refine W.sr ?_
 simp (disch := omega) [gw]
 refine aA d1 ?_
 simp (disch := omega) [gw]
 refine aA d2 ?_
 simp (disch := omega) [gw]
 refine W.lx [4, 5, 7] ?_; simp
 refine W.seq ?_
 refine W.block ?_
 refine W.a8 (fun k σ => ∃ (L : List ZX) (x y : ZX) (i ver v18 e18 s : Nat) (rows : Pm.Rows) (clk : Nat), σ = ⟨fa [(4, Po x.l), (5, .ptr 18 v18 0 0), (7, Po y.l)], rows, clk⟩ ∧ rows 16 = some ⟨ver, 31, 1, emap zp L⟩ ∧ rows 18 = some ⟨v18, e18, 1, [[.own 16 ver 0 (i + 1)]]⟩ ∧ L.length = i + 1 ∧
  L ++ sB k x y = C ∧ k = ZX.N y ∧ BZ s n x ∧ BZ s n y ∧ xT 4500000000 n s x y ∧ i + ZX.N y ≤ 20) (ZX.N g0) ?_ ?_
 ·exact ⟨_, .refl, [f], f, g0, 0, _, _, _, s + 5, _, _, rfl, by simp [emap]; (first | exact rfl | exact ⟨rfl, rfl⟩), by simp; (first | exact rfl | exact ⟨rfl, rfl⟩ | exact ⟨rfl, rfl, rfl⟩), rfl, hc.symm, rfl, b1, b2, hp, by have := b2.N; omega⟩
 rintro k _ ⟨L, x, y, i, ver, v18, e18, s, rows, clk, rfl, aaT, ajM, hL, NN, rfl, bx, qH, hp, hiN⟩
 have hs := hp.le
 have hlx := bx.len
 have hly := qH.len
 have hLl : (emap zp L).length = i + 1 := by simp [emap, hL]
 refine W.seq ?_
 refine W.sr ?_; simp (disch := omega) [gw]; refine W.lx [4, 5, 7, 27] ?_; simp
 refine W.cond ⟨_, rfl, fun h => ?_, fun h => ?_⟩
 ·have hy : y ≠ 0 := ZX.aG.2 (by show 0 < y.l.length; simp at h; omega)
  have hR := JE (x.l.map qR) (y.l.map qR) (bx.BU (by omega) (by omega)) (qH.BU (by omega) (by omega)) (s := s) (s' := s) (N := n) (by rw [bP]; exact xD bx) (by rw [bP]; exact xD qH) (by
   have : n * (s + n + 1) ≤ 20 * 4500000000 := Nat.mul_le_mul hn hs
   omega)
  rw [wQ, wQ, if_neg (tO hy), ← gW, ← gW] at hR
  have br := RA bx qH hy
  have agH : (ZX.N x + 1 - ZX.N y) * (s + n + 1) ≤ 22 * 4500000000 := Nat.mul_le_mul (by have : ZX.N x = x.l.length := rfl; omega) (by omega)
  have hrz : JC x.l y.l = (oI (rz x y)).l := by
   obtain ⟨TQ, hN, _⟩ := qJ (a := x) hy
   obtain ⟨m, q, hm, e⟩ := aaE y.c (ZX.aG.1 hy) (x.l.length + 1) x.l x.c (by omega)
   rw [← TQ] at e
   exact aaF x.c y.c (ZX.aG.1 hy) (rz x y).c hN hm e
  rw [hrz] at hR
  have hNg := DC (x := (oI (rz x y)).l) (PB.of (xD (gX br)) (by omega) (by omega))
  have e3 : fH (oI (rz x y)).l = (nx x y).l := rfl
  rw [e3] at hNg
  have ND := UY (a := x) hy
  have hp2 := hp.step ND
  have bn := RC bx qH hy
  have hch : L ++ [y] ++ sB (ZX.N (nx x y)) y (nx x y) = C := by
   rw [← NN]
   obtain ⟨j, hj⟩ : ∃ j, ZX.N y = j + 1 := ⟨ZX.N y - 1, by have := ZX.aG.1 hy; have : ZX.N y = y.l.length := rfl; omega⟩
   rw [hj, sB, if_neg (by omega), AM (k := j) (j := ZX.N (nx x y)) (by omega) (Nat.le_refl _)]
   simp
  generalize (oI (rz x y)).l = pl at *
  generalize hnx : nx x y = nn at *
  refine W.skip ?_
  refine W.block ?_
  refine W.sr ?_
  simp (disch := omega) [gw, aaT, ajM, hLl]
  refine W.lx [4, 5, 7] ?_; simp
  refine W.sr ?_
  simp (disch := omega) [gw]
  refine aA hR ?_
  simp (disch := omega) [gw]
  refine W.lx [5, 7, 8] ?_; simp
  refine W.bY (fun K hK => ?_)
  simp (disch := omega) [gw]
  refine aA hNg ?_
  simp (disch := omega) [gw]
  refine hK _ ⟨ZX.N nn, _, aC _ [4, 5, 7], ND, L ++ [y], y, nn, i + 1, _, v18, e18, _, _, _, rfl, by simp; first | exact rfl | skip, by simp; first | exact rfl | skip, by simp [hL], hch, rfl, qH.mono (by omega) (Nat.le_refl _), bn, hp2, by omega⟩
 ·have hy : y = 0 := by
   refine Classical.byContradiction fun h0 => ?_
   have h1 := ZX.aG.1 h0
   have h2 : ZX.N y = y.l.length := rfl
   simp at h; rw [h2, h] at h1; simp at h1
  subst hy
  rw [jB, List.append_nil] at NN
  subst NN
  have uH : List.take (i + 1) L = L := List.take_of_length_le (by omega)
  refine W.exit ?_; simp only [pX, if_true, if_false, reduceIte, Nat.reduceEqDiff]
  refine W.E2 16 (by rw [aaT]; simp) (fun K hK => ?_)
  simp [aaT]
  refine hK _ ?_
  have aps : BS rows 16 18 = some ⟨v18, e18, 1, [[aI zp L]]⟩ := by
   simp [ajM, aaT, hLl, uH]
  clear aaT ajM
  generalize BS rows 16 = tB at *
  refine W.sr ?_; simp (disch := omega) [gw]; refine W.lx [2, 3] ?_; simp
  refine W.ret ?_
  simp [go, aps]
theorem aaU {n : Nat} (hn : n ≤ 20) : ∀ (j s : Nat) (x g : ZX), BZ s n x → BZ s n g → xT 4500000000 n s x g → ∀ p ∈ sB j x g, BZ 4500000000 n p
 | 0, _, _, _, _, _, _, p, hp => by cases hp
 | j + 1, s, x, g, bx, bg, hP, p, hp => by
  have hs := hP.le
  rw [sB] at hp
  split at hp
  ·cases hp
  ·rename_i h0
   have h0' : g ≠ 0 := ZX.aG.2 (Nat.pos_of_ne_zero h0)
   rcases List.mem_cons.1 hp with rfl | hp
   ·exact bg.mono (by omega) (Nat.le_refl _)
   ·exact aaU hn j _ g (nx x g) (bg.mono (by omega) (Nat.le_refl _)) (RC bx bg h0') (hP.step (UY h0')) p hp
theorem RM : ∀ (j : Nat) (x g : ZX), (sB j x g).length ≤ j
 | 0, _, _ => Nat.le_refl _
 | j + 1, x, g => by
  rw [sB]
  split
  ·simp
  ·simp only [List.length_cons]; have := RM j g (nx x g); omega
theorem Ch.all {s n : Nat} {f : ZX} (h : Ch s n f) : (∀ p ∈ bC f, BZ 4500000000 n p) ∧ (bC f).length ≤ 21 := by
 have hp := h.pot
 have hs := hp.le
 have hn := h.hn
 refine ⟨fun p hq => ?_, ?_⟩
 ·rcases List.mem_cons.1 hq with rfl | hq
  ·exact h.bz.mono (by omega) (Nat.le_refl _)
  ·exact aaU hn _ _ _ _ (h.bz.mono (by omega) (Nat.le_refl _)) (gX (h.bz.bM (by omega))) hp p hq
 ·have := RM (ZX.N f) f (oI (bM f))
  have h2 := h.bz.N
  show (f :: sB (ZX.N f) f (oI (bM f))).length ≤ 21
  simp only [List.length_cons]; omega
theorem aes {a u v : ZX} {c : Int} (na : Nf a) (hc : c ≠ 0) (h : u * a + v * bM a = K c) : sq a = a := apq na.ne na fun p hp => by
 have hm : mu p a ≤ 1 := by
  rcases Nat.lt_or_ge (mu p a) 2 with h1 | h1
  ·omega
  ·exfalso
   obtain ⟨m, hmm⟩ : ∃ m, mu p a = m + 1 := ⟨mu p a - 1, by omega⟩
   obtain ⟨_, h2⟩ := u0 hp na.ne hmm
   have d1 : dv p a := by have := (lC hp na.ne).1 (show 1 ≤ mu p a by omega); rwa [show p ^ 1 = p by rw [pow_succ', dZ]; grind] at this
   have hd : bM a ≠ 0 := fun h0 => by rw [h0] at h2; have : mu p (0 : ZX) = m := h2; have h9 := (u0 hp na.ne hmm).1; exact h9 h0
   have d2 : dv p (bM a) := by have := (lC hp hd).1 (show 1 ≤ mu p (bM a) by omega); rwa [show p ^ 1 = p by rw [pow_succ', dZ]; grind] at this
   have d3 : dv p (K c) := by rw [← h]; exact (d1.mul_left u).add (d2.mul_left v)
   have h3 := d3.qT (r5 hc)
   have h4 := hp.deg
   rw [N_K hc] at h3
   omega
 omega
theorem j8 (q : Rat) : cR q.num q.den = q := by
 rw [cR, if_neg (by have := q.den_nz; omega)]
 exact Rat.num_divInt_den q
structure SQ (u : Nat) (q : Rat) : Prop where
 n2 : sz 2 q.num ≤ u
 d2 : sz 2 (q.den : Int) ≤ u
 hu : 1 ≤ u
theorem SQ.nL {u : Nat} {q : Rat} (h : SQ u q) : sz LL q.num ≤ u := Nat.le_trans (AJ _) h.n2
theorem SQ.dL {u : Nat} {q : Rat} (h : SQ u q) : sz LL (q.den : Int) ≤ u := Nat.le_trans (AJ _) h.d2
section
variable {c : List ZX} {n u : Nat} {q : Rat} (hb : ∀ p ∈ c, BZ 4500000000 n p) (hn : n ≤ 20) (hl : c.length ≤ 21) (hq : SQ u q) (hu : u ≤ 1000000000)
include hb hn hl hq hu
theorem aaV : aK env.P 129 [aI zq c, R2 q.num q.den] (.int .i64 (vr (mA c q.num q.den))) := J8 (by omega) fun p hp => by
 have hmul : n * (u + 1) ≤ 20 * (u + 1) := Nat.mul_le_mul_right _ hn
 exact u4 (hb p hp) hq.n2 hq.d2 hq.hu (by omega) (by show _ < 137438953472; omega)
theorem aaW : aK env.P 183 [CH c, T2 q.num q.den] (.int .i64 (vr (mA c q.num q.den))) := N7 (by omega) fun p hp => by
 have hmul : n * (u + 1) ≤ 20 * (u + 1) := Nat.mul_le_mul_right _ hn
 exact DU (xD (hb p hp)) p.c hq.nL hq.dL hq.hu (by omega) (by omega) (by omega) (j8 q) ⟨hq.nL, hq.dL⟩
end
theorem pbs {c : List ZX} {n : Nat} (hb : ∀ p ∈ c, BZ 4500000000 n p) (hn : n ≤ 20) : ∀ p ∈ c, PB p.l := fun p hp => (hb p hp).pb (by decide) (by omega)
theorem aaX {α : Type} {g : α → List PV} {l : List α} (hS : aK env.P 83 [aI g l] (.sl [])) : aK env.P 82 [aI g l] (.eA [.gZ, .int .i64 2]) := by
 refine aB (E := env) (fun _ => 0) [(0, aI g l)] Tryz.func82 rfl (by kernel_rfl) (by kernel_rfl) (show 1 ≤ 48 by decide) (by simp) ?_
 refine W.sr ?_; simp (disch := omega) [gw]; refine W.lx [0] ?_; simp
 refine W.sr ?_
 simp (disch := omega) [gw]
 refine aA hS ?_
 simp (disch := omega) [gw]
 refine W.lx [4] ?_; simp
 refine W.seq ?_
 refine W.sr ?_; simp (disch := omega) [gw]; refine W.lx [4, 14] ?_; simp
 refine W.cond ⟨_, rfl, fun h => ?_, fun h => ?_⟩
 ·refine W.sr ?_; simp (disch := omega) [gw]; refine W.lx [2, 3] ?_; simp
  refine W.ret ?_
  simp [go]
 ·simp at h
theorem aet : sq 0 = 0 := by unfold sq; rw [if_pos (by decide), gG]
theorem aeu : aK env.P 82 [.sl []] (.eA [.gZ, .int .i64 2]) := by
 have hS := r8 (a := 0) (s := 1) (n := 1) ⟨⟨by decide, fun c hc => by cases hc⟩, by decide, by decide, by decide⟩
 rw [aet] at hS
 exact aaX (g := ie) (l := []) hS
theorem aev : (PV.ag [.bool false, .sl [], .bool false, .sl []]) = T2 0 0 := rfl
structure MK (a : ZX) (c : List ZX) : Prop where
 to : aK env.P 22 [PI a.l] (Po a.l)
 new : aK env.P 82 [Po a.l] (.eA [CH c, .int .i64 0])
 chain : aK env.P 57 [PI a.l] (aI zq c)
 bd : ∀ p ∈ c, BZ 4500000000 20 p
 len : c.length ≤ 21
theorem MK.of {s n : Nat} {a : ZX} (h : oO s n a) (h0 : a ≠ 0) (tS : 1 ≤ n) (h1 : 1 ≤ s) : MK a (bC (sq a)) := by
 have hC := h.ch h0 tS
 obtain ⟨hb, hl⟩ := hC.all
 have hqb := h.oH
 have hs : s < 1099511627776 := by unfold qb at hqb; omega
 have hn := h.hn
 exact ⟨x8 h.bz hs (by omega), RL (r8 h) hC (aaO h0).1, N9 h h0 tS h1, fun p hp => (hb p hp).mono (Nat.le_refl _) hn, hl⟩
theorem mB (a b : Nat) : (2 : Rat) ^ (a + b) = 2 ^ a * 2 ^ b := by
 induction b with
 | zero => simp
 | succ b ih => rw [← Nat.add_assoc, Rat.pow_succ, Rat.pow_succ, ih]; grind
theorem two_pow_pos (a : Nat) : (0 : Rat) < 2 ^ a := Rat.pow_pos (by decide)
theorem mC : ∀ a : Nat, (1 : Rat) ≤ 2 ^ a
 | 0 => by simp
 | a + 1 => by
  have := mC a
  rw [Rat.pow_succ]; grind
theorem jW {a b : Nat} (h : a ≤ b) : (2 : Rat) ^ a ≤ 2 ^ b := by
 obtain ⟨c, rfl⟩ := Nat.exists_eq_add_of_le h
 rw [mB]
 have h1 := mC c
 have h2 := Rat.mul_le_mul_of_nonneg_left h1 (Rat.le_of_lt (two_pow_pos a))
 grind
theorem KB {c : Int} {s : Nat} (h : c.natAbs < 2 ^ s) : Ab (c : Rat) (2 ^ s) := by
 have h1 : ((2 ^ s : Int) : Rat) = 2 ^ s := by rw [Rat.intCast_pow]; rfl
 have h2 : (2 ^ s : Int) = ((2 ^ s : Nat) : Int) := by rw [Int.natCast_pow]; rfl
 constructor
 ·rw [← h1, ← Rat.intCast_neg]
  exact Rat.intCast_le_intCast.2 (by omega)
 ·rw [← h1]
  exact Rat.intCast_le_intCast.2 (by omega)
theorem agL {c : Int} {s : Nat} (h : sz 2 c ≤ s) : Ab (c : Rat) (2 ^ s) :=
 KB (Nat.lt_of_lt_of_le (kY (b := 2) (by decide) c) (Nat.pow_le_pow_right (by decide) h))
theorem BZ.ab {s n : Nat} {a : ZX} (h : BZ s n a) : ∀ c ∈ a.l, Ab (c : Rat) (2 ^ s) := fun c hc => agL (h.sz c hc)
theorem F4 (s β : Nat) : ∀ k, BX (2 ^ s) (2 ^ β) k = 2 ^ (s + k * (β + 2))
 | 0 => by simp [BX]
 | k + 1 => by
  rw [BX, F4 s β k, show s + (k + 1) * (β + 2) = s + k * (β + 2) + β + 1 + 1 by rw [Nat.add_mul]; omega, Rat.pow_succ, Rat.pow_succ, mB _ β]
  grind
theorem BZ.aum {s n β : Nat} {a : ZX} (h : BZ s n a) {t : Rat} (ht : Ab t (2 ^ β)) : Ab (e t a) (2 ^ (s + n * (β + 2))) := by
 have h1 := RF (S := 2 ^ s) (B := 2 ^ β) (Rat.le_of_lt (two_pow_pos s)) (mC β) ht a.l h.ab
 rw [F4] at h1
 exact h1.mono (jW (by have := Nat.mul_le_mul_right (β + 2) h.len; omega))
theorem RN {s' N : Nat} {y : List Int} (qH : Bd 2 s' N y) (cy : Cn y) (hy : 0 < y.length) : ∀ (n j s : Nat) (x : List Int), Cn x → x.length < n → Bd 2 s N x → x.length + 1 ≤ y.length + j →
  ∃ (m : Int) (q : List Int), 0 < m ∧ sz 2 m ≤ j * s' + 1 ∧ Bd 2 (s + j * (2 * s' + N + 2)) N q ∧ ∀ t, m * V t x = V t q * V t y + V t (rq y n x)
 | 0, j, s, x, _, h, _, _ => by omega
 | n + 1, j, s, x, cx, h, bx, hj => by
  rw [rq]
  split
  ·exact ⟨1, [], by decide, Nat.le_trans (cO (k := 1) (by decide) (by decide)) (by omega), ⟨by simp, fun c hc => by cases hc⟩, fun t => by simp [V]⟩
  ·rename_i h1
   obtain ⟨j, rfl⟩ : ∃ i, j = i + 1 := ⟨j - 1, by omega⟩
   have hl := qI hy (show y.length ≤ x.length by omega)
   have hb := NT qH bx hy (show y.length ≤ x.length by omega)
   obtain ⟨m, q, hm, hms, hq, h4⟩ := RN qH cy hy n j _ (Q7 y x) (Cn.dW _ _) (by omega) hb (by omega)
   have vP := cB cy hy
   have e1 : (j + 1) * s' = j * s' + s' := by rw [Nat.add_mul]; omega
   have e2 : (j + 1) * (2 * s' + N + 2) = j * (2 * s' + N + 2) + (2 * s' + N + 2) := by rw [Nat.add_mul]; omega
   have e3 : j * s' ≤ j * (2 * s' + N + 2) := Nat.mul_le_mul_left _ (by omega)
   have sx : sz 2 (uL (lead y) * lead x) ≤ s := by
    refine Nat.le_trans (cA (b := 2) (by decide) ?_) (eP bx)
    rw [Int.natAbs_mul]
    have : (uL (lead y)).natAbs = 1 := by unfold uL; split <;> rfl
    rw [this, Nat.one_mul]; exact Nat.le_refl _
   have lK := (Bd.aV (b := 2) (by decide) (Bd.oK (b := 2) sx (x.length - y.length)) hms)
   have hlen := bx.len
   refine ⟨m * (lead y).natAbs, fX q (aV (oK (x.length - y.length) (uL (lead y) * lead x)) m), Int.mul_pos hm (by omega), ?_, ?_, fun t => ?_⟩
   ·have h8 : sz 2 ((lead y).natAbs : Int) ≤ s' := Nat.le_trans (cA (b := 2) (by decide) (by simp)) (eP qH)
    have := bR (b := 2) (by decide) hms h8
    omega
   ·refine (Bd.fX (b := 2) (s := s + (j + 1) * (2 * s' + N + 2) - 1) (by decide) (hq.mono (by omega) (Nat.le_refl _)) (lK.mono (by omega) (by omega))).mono (by omega) (Nat.le_refl _)
   ·have h5 := aaB t y x
    have h6 := h4 t
    rw [pB, bT, lY]
    have : m * ((lead y).natAbs : Int) * V t x = m * (((lead y).natAbs : Int) * V t x) := by grind
    rw [this, h5]
    grind
theorem ajN {s n : Nat} {a b : ZX} (ha : BZ s n a) (hb : BZ s n b) (h0 : b ≠ 0) : ∃ (m : Int) (q : ZX), 0 < m ∧ sz 2 m ≤ (n + 1) * s + 1 ∧ BZ (s + (n + 1) * (2 * s + n + 2)) n q ∧ ((nx a b = 0 ∧ K m * a = q * b) ∨ (nx a b ≠ 0 ∧ ∃ k : Int, 0 < k ∧ K m * a = q * b - K k * nx a b)) := by
 obtain ⟨TQ, hN, _⟩ := qJ (a := a) h0
 obtain ⟨m, q, hm, hms, hq, e⟩ := RN hb b.c (ZX.aG.1 h0) (a.l.length + 1) (n + 1) s a.l a.c (by omega) ha (by have := ha.len; have := ZX.aG.1 h0; show a.l.length + 1 ≤ b.l.length + (n + 1); omega)
 rw [← TQ] at e
 have e1 : K m * a = ZX.of q * b + rz a b := ZX.ext fun t => by rw [cU, tM, kG, cU, JL]; exact e t
 refine ⟨m, ZX.of q, hm, hms, Bd.cut hq, ?_⟩
 by_cases hr : rz a b = 0
 ·left
  refine ⟨?_, by rw [e1, hr]; grind⟩
  exact ZX.ext fun t => by
   show V t (fH (iT (rz a b).l)) = _
   rw [hr]; rfl
 ·right
  have hrn : (rz a b).l ≠ [] := tO hr
  have hp := AK (rz a b).c hrn
  have hg := bU (rz a b).c hrn
  have hnx : K (bG (rz a b).l : Int) * nx a b = -(rz a b) := ZX.ext fun t => by
   rw [cU, tM, DF]
   show _ * V t (fH (iT (rz a b).l)) = _
   rw [zC]
   have h2 : V t (rz a b).l = V t (iT (rz a b).l) * (bG (rz a b).l : Int) := by rw [← c8, hp]
   rw [h2]; grind
  refine ⟨fun h => hr ?_, _, Int.natCast_pos.2 (Nat.pos_of_ne_zero hg), by rw [hnx, e1]; grind⟩
  rw [h] at hnx
  have : (rz a b) = -(K (bG (rz a b).l : Int) * 0) := by rw [hnx]; grind
  rw [this]; grind
theorem KC {a b : ZX} (hb : b ≠ 0) (hg : gz a b = 1) (hd : dv b a) : ∃ c : Int, c ≠ 0 ∧ b = K c := by
 have h1 := (gP a b).least hd (dv.refl b)
 rw [hg] at h1
 have h2 := h1.qT r6
 rw [ZX.AA] at h2
 have := ZX.aG.1 hb
 exact ZX.m9 (by omega)
def GW (C n β : Nat) : Nat := C + (n + 1) * (2 * C + n + 2) + n * (β + 2) + 2
theorem RO {C n β : Nat} (hn : n ≤ 20) : ∀ (k s : Nat) (a b : ZX), ZX.N b ≤ k → b ≠ 0 → BZ s n a → BZ s n b → xT C n s a b → gz a b = 1 → StC (2 ^ GW C n β) (2 ^ β) (a :: sB k a b) ∧ ∀ p ∈ sB k a b, BZ C n p
 | 0, s, a, b, hk, h0, _, _, _, _ => absurd hk (by have := ZX.aG.1 h0; omega)
 | k + 1, s, a, b, hk, h0, ha, hb, hp, hg => by
  have hs := hp.le
  have hNb := ZX.aG.1 h0
  obtain ⟨m, q, hm, hms, hq, hr⟩ := ajN ha hb h0
  rw [sB, if_neg (by omega)]
  have hbC : BZ C n b := hb.mono (by omega) (Nat.le_refl _)
  rcases hr with ⟨hz, e1⟩ | ⟨hz, kk, hkk, e1⟩
  ·rw [hz, jB]
   exact ⟨KC h0 hg ⟨m, by omega, q, e1⟩, fun p hp => by
    simp only [List.mem_cons, List.not_mem_nil, or_false] at hp
    subst hp; exact hbC⟩
  ·have hN := UY (a := a) h0
   have mG : gz b (nx a b) = 1 := by
    rw [← hg]
    exact (FU (c := m) (k := -kk) (q := q) (by omega) (by omega) (by rw [e1, show K (-kk) = -K kk from ZX.ext fun t => by rw [tM, DF, tM]]; grind)).symm
   obtain ⟨ih, ih2⟩ := RO hn k _ b (nx a b) (by omega) hz (hb.mono (Nat.le_add_right _ _) (Nat.le_refl _)) (RC ha hb h0) (hp.step hN) mG
   refine ⟨?_, fun p hp => ?_⟩
   ·obtain ⟨k2, rfl⟩ : ∃ k2, k = k2 + 1 := ⟨k - 1, by have := ZX.aG.1 hz; omega⟩
    rw [sB, if_neg (by have := ZX.aG.1 hz; omega)] at ih ⊢
    have c1 : (n + 1) * s ≤ (n + 1) * (2 * C + n + 2) := Nat.mul_le_mul_left _ (by omega)
    have c2 : (n + 1) * (2 * s + n + 2) ≤ (n + 1) * (2 * C + n + 2) := Nat.mul_le_mul_left _ (by omega)
    refine ⟨ih, m, kk, q, hm, hkk, e1, ?_, fun t ht => ?_⟩
    ·have h1 := (agL hms).2
     have h2 := jW (show (n + 1) * s + 1 + 1 ≤ GW C n β by unfold GW; omega)
     rw [Rat.pow_succ] at h2
     grind
    ·have h1 := (BZ.aum hq ht)
     have h2 := (Ab.mul (x := 2) (M := 2) ⟨by decide, by decide⟩ h1)
     refine h2.mono ?_
     have h3 := jW (show s + (n + 1) * (2 * s + n + 2) + n * (β + 2) + 1 ≤ GW C n β by unfold GW; omega)
     rw [Rat.pow_succ] at h3
     grind
   ·rcases List.mem_cons.1 hp with rfl | hp
    ·exact hbC
    ·exact ih2 p hp
theorem KE : ∀ (k : Nat) (a b : ZX), (sB k a b).length ≤ ZX.N b
 | 0, a, b => by simp [sB]
 | k + 1, a, b => by
  rw [sB]
  split
  ·simp
  ·rename_i h0
   have := UY (a := a) (ZX.aG.2 (Nat.pos_of_ne_zero h0))
   have := KE k b (nx a b)
   simp only [List.length_cons]; omega
theorem apt {a : ZX} (ha : a ≠ 0) : ∃ c : Int, 0 < c ∧ a = K c * oI a := by
 have hp := AK a.c (tO ha)
 refine ⟨(bG a.l : Int), Int.natCast_pos.2 (Nat.pos_of_ne_zero (bU a.c (tO ha))), ZX.ext fun t => ?_⟩
 rw [cU, tM]
 show _ = _ * V t (iT a.l)
 have h2 : V t a.l = V t (iT a.l) * (bG a.l : Int) := by rw [← c8, hp]
 rw [h2]; grind
theorem aew {C s n β : Nat} {f : ZX} (hn : n ≤ 20) (hf : f ≠ 0) (hb : BZ (s + 5) n f) (hp : xT C n (s + 5) f (oI (bM f))) (bd : BZ (s + 5) n (oI (bM f))) (hg : gz f (bM f) = 1) : StC (2 ^ GW C n β) (2 ^ β) (bC f) ∧ (∀ p ∈ bC f, BZ C n p) ∧ (bC f).length ≤ n + 1 ∧ ∀ g k, sB (ZX.N f) f (oI (bM f)) = g :: k → ∃ c : Int, 0 < c ∧ bM f = K c * g := by
 have hs := hp.le
 have hfC : BZ C n f := hb.mono (by omega) (Nat.le_refl _)
 have hNf := hb.N
 have h1 := l6 f
 have h2 : ZX.N (oI (bM f)) ≤ ZX.N (bM f) := j6 _
 by_cases h0 : bM f = 0
 ·have wI : oI (bM f) = 0 := by rw [h0]; exact ZX.ext fun t => rfl
  have hc : bC f = [f] := by unfold bC; rw [wI, jB]
  rw [hc]
  have hN1 : ZX.N f ≤ 1 := Classical.byContradiction fun h => FR (a := f) (by omega) h0
  refine ⟨ZX.m9 (by have := ZX.aG.1 hf; omega), fun p hp => by
   simp only [List.mem_cons, List.not_mem_nil, or_false] at hp
   subst hp; exact hfC, by simp, fun g k h => ?_⟩
  rw [wI, jB] at h; cases h
 ·obtain ⟨c, hc, e⟩ := apt h0
  have wI : oI (bM f) ≠ 0 := fun h => h0 (by rw [e, h]; grind)
  have mG : gz f (oI (bM f)) = 1 := by
   rw [← hg]
   refine AH (dv.refl f) (dv.refl f) ⟨1, by decide, K c, by rw [e]; show (1 : ZX) * _ = _; grind⟩ ⟨c, by omega, 1, by grind⟩
  obtain ⟨g1, g2⟩ := RO (β := β) hn (ZX.N f) (s + 5) f (oI (bM f)) (by omega) wI hb bd hp mG
  refine ⟨g1, fun p hp => ?_, ?_, fun g k h => ?_⟩
  ·rcases List.mem_cons.1 hp with rfl | hp
   ·exact hfC
   ·exact g2 p hp
  ·have := KE (ZX.N f) f (oI (bM f))
   show (f :: sB (ZX.N f) f (oI (bM f))).length ≤ _
   simp only [List.length_cons]
   omega
  ·obtain ⟨j, hj⟩ : ∃ j, ZX.N f = j + 1 := ⟨ZX.N f - 1, by have := ZX.aG.1 hf; omega⟩
   rw [hj, sB, if_neg (by have := ZX.aG.1 wI; omega)] at h
   cases h
   exact ⟨c, hc, e⟩
theorem RQ (μ : Nat) : ∀ k, (2 : Rat) ^ (μ * k) * xF (2 ^ μ) k = 1
 | 0 => by simp [xF]
 | k + 1 => by
  have h1 := RQ μ k
  have h2 : xF (2 ^ μ) (k + 1) = xF (2 ^ μ) k / 2 ^ μ := rfl
  have h3 : xF ((2 : Rat) ^ μ) k / 2 ^ μ * 2 ^ μ = xF (2 ^ μ) k := Rat.div_mul_cancel (Rat.ne_of_gt (two_pow_pos μ))
  rw [h2, Nat.mul_add, Nat.mul_one, mB]
  grind
def jb (C n β : Nat) : Nat := (n + 1) * GW C n β + C + n * (β + 2) + 1
theorem RS {C s n β : Nat} {f : ZX} (hn : n ≤ 20) (hf : f ≠ 0) (hb : BZ (s + 5) n f) (hp : xT C n (s + 5) f (oI (bM f))) (bd : BZ (s + 5) n (oI (bM f))) (hg : gz f (bM f) = 1) {δ : Rat} (hδ : δ * 2 ^ jb C n β ≤ 1) : Lcl (bC f) f (2 ^ β) δ := by
 obtain ⟨h1, h2, h3, h4⟩ := aew (β := β) hn hf hb hp bd hg
 have hM : (2 : Rat) ≤ 2 ^ GW C n β := by
  have := jW (show 1 ≤ GW C n β by unfold GW; omega)
  rw [Rat.pow_one] at this
  exact this
 refine StC.loc (Q := 2 ^ (C + n * (β + 2))) hM (mC β) (Rat.le_of_lt (two_pow_pos C)) h1 (fun p hp => ⟨(h2 p hp).ab, ?_⟩) h4 ?_
 ·rw [F4]
  exact jW (by have := Nat.mul_le_mul_right (β + 2) (h2 p hp).len; omega)
 ·have e1 := RQ (GW C n β) (bC f).length
  have hε := tX hM (bC f).length
  have h5 : GW C n β * (bC f).length + (C + n * (β + 2)) + 1 ≤ jb C n β := by
   have := Nat.mul_le_mul_left (GW C n β) h3
   rw [Nat.mul_comm (GW C n β) (n + 1)] at this
   unfold jb; omega
  have h6 := jW h5
  rw [Rat.pow_succ, mB] at h6
  have hA := two_pow_pos (GW C n β * (bC f).length)
  have hB := two_pow_pos (C + n * (β + 2))
  show δ * 2 ^ (C + n * (β + 2)) < xF (2 ^ GW C n β) (bC f).length
  generalize (2 : Rat) ^ (GW C n β * (bC f).length) = A at *
  generalize (2 : Rat) ^ (C + n * (β + 2)) = Q at *
  generalize xF ((2 : Rat) ^ GW C n β) (bC f).length = ε at *
  generalize (2 : Rat) ^ jb C n β = J at *
  by_cases h0 : 0 < δ
  ·have h7 := Rat.mul_le_mul_of_nonneg_left h6 (Rat.le_of_lt h0)
   have h8 : δ * Q * A ≤ 1 / 2 := by grind
   refine Rat.lt_of_mul_lt_mul_right (c := A) ?_ (Rat.le_of_lt hA)
   grind
  ·have h7 := Rat.mul_le_mul_of_nonneg_right (show δ ≤ 0 by grind) (Rat.le_of_lt hB)
   grind
theorem F5 : ∀ (l : List Int) (n : Nat) (p : Int), (l.foldl sH (n, p)).1 = n + B2 p l
 | [], n, p => rfl
 | s :: l, n, p => by
  have h : sH (n, p) s = if s = 0 then (n, p) else (if p ≠ 0 ∧ s ≠ p then n + 1 else n, s) := rfl
  rw [List.foldl_cons, h]
  simp only [B2]
  split
  ·exact F5 l n p
  ·split <;> rw [F5 l] <;> omega
theorem OC (l : List Int) : vr l = B2 0 l := by
 rw [vr, F5]; omega
theorem agM {n d : Int} {q : Rat} (h : (n : Rat) = q * d) : ∀ x : List Int, ((hm n d x).1 : Rat) * d = qv q x * (d : Rat) ^ x.length ∧ ((hm n d x).2 : Rat) = (d : Rat) ^ x.length
 | [] => by
  refine ⟨?_, ?_⟩
  ·show ((0 : Int) : Rat) * d = 0 * _
   rw [Rat.intCast_zero, Rat.zero_mul, Rat.zero_mul]
  ·show ((1 : Int) : Rat) = (d : Rat) ^ 0
   rw [Rat.intCast_one, Rat.pow_zero]
 | a :: l => by
  obtain ⟨h1, h2⟩ := agM h l
  have e : hm n d (a :: l) = ((hm n d l).1 * n + a * (hm n d l).2, (hm n d l).2 * d) := rfl
  rw [e]
  simp only [qv, List.length_cons, Rat.pow_succ, Rat.intCast_add, Rat.intCast_mul]
  rw [h, h2]
  refine ⟨?_, rfl⟩
  have : (((hm n d l).1 : Rat) * (q * d) + a * (d : Rat) ^ l.length) * d = ((hm n d l).1 : Rat) * d * (q * d) + a * ((d : Rat) ^ l.length * d) := by grind
  rw [this, h1]; grind
theorem U8 (v : Int) : v.sign = b6 (v : Rat) := by
 rcases Int.lt_trichotomy v 0 with h | h | h
 ·rw [Int.sign_eq_neg_one_of_neg h, fO (Rat.intCast_neg_iff.2 h)]
 ·subst h; decide
 ·rw [Int.sign_eq_one_of_pos h, dV (Rat.intCast_pos.2 h)]
theorem F6 (p : ZX) (q : Rat) : xE p.l q.num q.den = b6 (e q p) := by
 have hd : (0 : Rat) < ((q.den : Int) : Rat) := Rat.intCast_pos.2 (by have := q.den_pos; omega)
 have hq : ((q.num : Int) : Rat) = q * ((q.den : Int) : Rat) := by
  have h1 : q = (q.num : Rat) / ((q.den : Int) : Rat) := by
   rw [← Rat.divInt_eq_div, Rat.num_divInt_den]
  have h2 := Rat.div_mul_cancel (a := (q.num : Rat)) (Rat.ne_of_gt hd)
  rw [← h1] at h2
  exact h2.symm
 have h1 := (agM hq p.l).1
 show (hm q.num q.den p.l).1.sign = b6 (qv q p.l)
 rw [U8]
 have h2 : b6 (((hm q.num q.den p.l).1 : Rat) * ((q.den : Int) : Rat)) = b6 (qv q p.l * ((q.den : Int) : Rat) ^ p.l.length) := by rw [h1]
 rw [qK, qK, dV hd, dV (Rat.pow_pos hd)] at h2
 omega
theorem AS (c : List ZX) (q : Rat) : vr (mA c q.num q.den) = vt c q := by
 rw [OC]
 unfold vt mA B3
 congr 1
 exact List.map_congr_left fun p _ => F6 p q
theorem ajO (c : List ZX) : ∃ S : Rat, 0 ≤ S ∧ ∀ p ∈ c, ∀ x ∈ p.l, Ab (x : Rat) S := by
 induction c with
 | nil => exact ⟨0, Rat.le_refl, fun p hp => by cases hp⟩
 | cons a c ih =>
  obtain ⟨S, hS, h⟩ := ih
  obtain ⟨A, hA, ha⟩ := F0 a.l
  refine ⟨S + A, by grind, fun p hp x hx => ?_⟩
  rcases List.mem_cons.1 hp with rfl | hp
  ·exact (ha x hx).mono (by grind)
  ·exact (h p hp x hx).mono (by grind)
theorem aaY (c : List ZX) : ∃ X : Rat, 1 ≤ X ∧ (∀ t, X ≤ t → vt c t = vr (RJ c)) ∧ ∀ t, t ≤ -X → vt c t = vr (RH c) := by
 obtain ⟨S, hS, h⟩ := ajO c
 refine ⟨S + 1, by grind, fun t ht => ?_, fun t ht => ?_⟩
 ·rw [OC]
  unfold vt RJ B3
  congr 1
  exact List.map_congr_left fun p hp => (DQ hS p.c (h p hp)).1 ht
 ·rw [OC]
  unfold vt RH B3
  congr 1
  exact List.map_congr_left fun p hp => (DQ hS p.c (h p hp)).2 ht
theorem ajP {a : ZX} (ha : a ≠ 0) : Nf (sq a) ∧ ∀ p, ZX.nX p → ZX.mu p (sq a) = min (ZX.mu p a) 1 := by
 have hA := eV ha
 unfold sq
 split
 ·rename_i h
  refine ⟨hA, fun p hp => ?_⟩
  obtain ⟨c, hc, rfl⟩ := ZX.m9 (x := a) (by have := ZX.aG.1 ha; omega)
  rw [AF hp ha, ZX.aaj hp hc]; rfl
 ·exact ⟨aat hA, fun p hp => by rw [aau hA hp, AF hp ha]⟩
theorem apu {a : ZX} (ha : a ≠ 0) : gz (sq a) (bM (sq a)) = 1 := by
 obtain ⟨h1, h2⟩ := ajP ha
 refine Nf.AG (Q0 h1.ne) Nf.one fun p hp => ?_
 have e1 : mu p (1 : ZX) = 0 := aaj hp (by decide)
 have h3 := agD h1.ne hp
 rw [h2 p hp] at h3
 rw [e1]
 show mu p (gd (sq a)) = 0
 rw [h3]
 omega
theorem Lcl.mono {L : List ZX} {f : ZX} {B C δ : Rat} (h : Lcl L f B δ) (hc : C ≤ B) : Lcl L f C δ :=
 ⟨fun s t hs ht => h.turns s t (hs.mono hc) (ht.mono hc), fun s t hs ht => h.simple s t (hs.mono hc) (ht.mono hc)⟩
theorem OD (B : Rat) : ∃ β : Nat, B ≤ 2 ^ β := by
 have h1 := Rat.lt_floor_add_one B
 refine ⟨(B.floor + 1).toNat, Rat.le_trans (Rat.le_of_lt h1) ?_⟩
 have h2 : ((2 ^ (B.floor + 1).toNat : Int) : Rat) = 2 ^ (B.floor + 1).toNat := by rw [Rat.intCast_pow]; rfl
 rw [← h2]
 refine Rat.intCast_le_intCast.2 ?_
 have h3 : (B.floor + 1).toNat < 2 ^ (B.floor + 1).toNat := Nat.lt_two_pow_self
 have h4 : ((2 ^ (B.floor + 1).toNat : Nat) : Int) = 2 ^ (B.floor + 1).toNat := by rw [Int.natCast_pow]; rfl
 omega
theorem Ch.U9 {s n : Nat} {f : ZX} (h : Ch s n f) (hf : f ≠ 0) (hg : gz f (bM f) = 1) : xG (bC f) f := ⟨fun B hB => by
 have hn := h.hn
 obtain ⟨β, hβ⟩ := OD B
 have bd : BZ (s + 5) n (bM f) := h.bz.bM (by omega)
 have hJ := two_pow_pos (jb 4500000000 n β)
 have hJ1 : (1 : Rat) / 2 ^ jb 4500000000 n β * 2 ^ jb 4500000000 n β = 1 := Rat.div_mul_cancel (Rat.ne_of_gt hJ)
 refine ⟨1 / 2 ^ jb 4500000000 n β, (Rat.lt_div_iff hJ).2 (by grind), ?_⟩
 exact Lcl.mono (RS hn hf (h.bz.mono (by omega) (Nat.le_refl _)) h.pot (gX bd) hg (by rw [hJ1]; exact Rat.le_refl)) hβ⟩
theorem VA {L : List ZX} {f : ZX} (h : xG L f) {b : Rat} (hb : ∀ a, Bg a b f) : vr (RH L) = vt L b := by
 obtain ⟨X, hX, _, h2⟩ := aaY L
 by_cases vS : b ≤ -X
 ·exact (h2 b vS).symm
 ·rw [← h2 (-X) Rat.le_refl]
  exact h.bg (hb (-X)) (Rat.not_le.1 vS)
theorem OE {L : List ZX} {f : ZX} (h : xG L f) {a : Rat} (ha : ∀ b, Bg a b f) : vr (RJ L) = vt L a := by
 obtain ⟨X, hX, h1, _⟩ := aaY L
 by_cases vS : X ≤ a
 ·exact (h1 a vS).symm
 ·rw [← h1 X Rat.le_refl]
  exact (h.bg (ha X) (Rat.not_le.1 vS)).symm
theorem iR (p q : Rat) : (dH (p.num * q.den) (q.num * p.den) < 0) ↔ p < q := by
 rw [mU, Rat.lt_iff]
theorem aaZ (C : List ZX) (q : Rat) : vt C q ≤ C.length := by
 have := AP (mA C q.num q.den)
 rw [AS] at this
 simpa [mA] using this
theorem AU {n d : Int} (h : d ≠ 0) : cR n d = (n : Rat) / d := by rw [cR, if_neg h, Rat.divInt_eq_div]
theorem OG {n d : Int} (h : d ≠ 0) {q : Rat} (e : (n : Rat) = q * d) : cR n d = q := by
 have hd : (d : Rat) ≠ 0 := fun h0 => h (Rat.intCast_eq_zero_iff.1 h0)
 rw [AU h, e, Rat.mul_div_cancel hd]
theorem F7 (q : Rat) : ((q.num : Int) : Rat) = q * ((q.den : Int) : Rat) := by
 have hd : (0 : Rat) < ((q.den : Int) : Rat) := Rat.intCast_pos.2 (by have := q.den_pos; omega)
 have h1 : q = (q.num : Rat) / ((q.den : Int) : Rat) := by
  rw [← Rat.divInt_eq_div, Rat.num_divInt_den]
 have h2 := Rat.div_mul_cancel (a := (q.num : Rat)) (Rat.ne_of_gt hd)
 rw [← h1] at h2
 exact h2.symm
theorem aex {n d : Int} (hn : sz LL n < 1099511627770) (hd : sz LL d < 1099511627770) (h0 : d ≠ 0) : aK env.P 163 [I n, I d] (.eA [RT (cR n d), .int .i64 0]) := by
 have n1 := FA (x := d) (by show _ < _; omega)
 have n2 := FA (x := n) (by show _ < _; omega)
 have z1 := DR d
 have l1 := sG hn hd h0
 rw [show decide (d = 0) = false from decide_eq_false h0] at z1
 show aK env.P _ _ (.eA [T2 (cR n d).num (cR n d).den, _])
 replace l1 : aK env.P 192 [I n, I d] (T2 (cR n d).num (cR n d).den) := l1
 generalize (cR n d).num = rn at *
 generalize ((cR n d).den : Int) = rd at *
 refine aB (E := env) (fun _ => 0) [(0, I n), (1, I d)] Tryz.func163 rfl (by kernel_rfl) (by kernel_rfl) (show 2 ≤ 15 by decide) (by simp) ?_
 refine W.sr ?_; simp (disch := omega) [gw]; refine W.lx [2, 3, 4] ?_; simp
 refine W.seq ?_
 refine W.sr ?_
 simp (disch := omega) [gw]
 refine aA n1 ?_
 simp (disch := omega) [gw]
 refine W.lx [2, 3, 4] ?_; simp
 refine W.sr ?_
 simp (disch := omega) [gw]
 refine aA z1 ?_
 simp (disch := omega) [gw]
 refine W.lx [2, 3, 4, 9] ?_; simp
 refine W.cond ⟨_, rfl, fun h => ?_, fun h => ?_⟩
 ·simp at h
 refine W.skip ?_
 refine W.sd ?_
 simp (maxSteps := 4000000) (disch := omega) [gw]
 refine aA n2 ?_
 simp (maxSteps := 4000000) (disch := omega) [gw]
 refine aA l1 ?_
 simp (maxSteps := 4000000) (disch := omega) [gw]
 (try (refine b8 (of_decide_eq_true (by kernel_rfl)) ?_)); (try simp (maxSteps := 4000000) (disch := omega) [gw]); (repeat rw [if_pos (by kernel_rfl)]); (try simp (maxSteps := 4000000) (disch := omega) [gw])
 refine W.lx [4, 5] ?_; simp
 refine W.ret ?_
 simp [go]
theorem ajQ (p q : Rat) : cR (p.num * q.den + q.num * p.den) (p.den * q.den * 2) = (p + q) / 2 := by
 have h1 : ((p.den : Int) * q.den * 2) ≠ 0 := by
  have := p.den_nz; have := q.den_nz
  refine Int.mul_ne_zero (Int.mul_ne_zero ?_ ?_) (by decide) <;> omega
 refine OG h1 ?_
 rw [Rat.intCast_add, Rat.intCast_mul, Rat.intCast_mul, Rat.intCast_mul, Rat.intCast_mul, F7 p, F7 q]
 have h2 : (p + q) / 2 * 2 = p + q := Rat.div_mul_cancel (by decide)
 show _ = (p + q) / 2 * (((p.den : Int) : Rat) * ((q.den : Int) : Rat) * 2)
 generalize (p + q) / 2 = m at *
 grind
theorem aa0 {p q : Rat} {k : Nat} (hp : sz LL p.num ≤ k ∧ sz LL (p.den : Int) ≤ k) (hq : sz LL q.num ≤ k ∧ sz LL (q.den : Int) ≤ k) (hk : k ≤ 300000000000) : aK env.P 118 [RT p, RT q] (RT ((p + q) / 2)) := by
 have c1 := DT hp.1 hp.2 hq.1 hq.2 (by omega) (j8 p) (j8 q) hp hq
 have g1 := bR (b := LL) fQ hp.1 hq.2
 have g2 := bR (b := LL) fQ hq.1 hp.2
 have g3 := bR (b := LL) fQ hp.2 hq.2
 have s2 : sz LL 2 ≤ 1 := cO (k := 1) fQ (by decide)
 have g4 := bR (b := LL) fQ g3 s2
 have g5 := mJ (b := LL) fQ (Nat.le_trans g1 (show k + k ≤ k + k from Nat.le_refl _)) (Nat.le_trans g2 (show k + k ≤ k + k from Nat.le_refl _))
 have a1 := P9 (x := p.num * q.den) (y := q.num * p.den) (by show _ < _; omega) (by show _ < _; omega)
 have o1 := zJ 2 (by decide) (by decide)
 have m1 := s9 (x := (p.den : Int) * q.den) (y := 2) (by show _ < _; omega) (by show _ < _; omega)
 have h1 : ((p.den : Int) * q.den * 2) ≠ 0 := by
  have := p.den_nz; have := q.den_nz
  refine Int.mul_ne_zero (Int.mul_ne_zero ?_ ?_) (by decide) <;> omega
 have l1 := sG (n := p.num * q.den + q.num * p.den) (d := p.den * q.den * 2) (by omega) (by omega) h1
 rw [ajQ] at l1
 show aK env.P _ [T2 p.num p.den, T2 q.num q.den] (T2 ((p + q) / 2).num ((p + q) / 2).den)
 replace l1 : aK env.P 192 [I (p.num * q.den + q.num * p.den), I (p.den * q.den * 2)] (T2 ((p + q) / 2).num ((p + q) / 2).den) := l1
 clear g1 g2 g3 g4 g5 h1 hp hq
 generalize ((p + q) / 2).num = rn at *
 generalize (((p + q) / 2).den : Int) = rd at *
 generalize p.num * (q.den : Int) + q.num * p.den = x4 at *
 generalize (p.den : Int) * q.den * 2 = x5 at *
 generalize p.num * (q.den : Int) = x1 at *
 generalize q.num * (p.den : Int) = x2 at *
 generalize (p.den : Int) * (q.den : Int) = x3 at *
 generalize p.num = pn at *
 generalize (p.den : Int) = pd at *
 generalize q.num = qn at *
 generalize (q.den : Int) = qd at *
 refine aB (E := env) (fun _ => 0) [(0, T2 pn pd), (1, T2 qn qd)] Tryz.func118 rfl (by kernel_rfl) (by kernel_rfl) (show 2 ≤ 22 by decide) (by simp) ?_
 refine W.sr ?_; simp (disch := omega) [gw]; refine W.lx [2, 3, 4] ?_; simp
 refine W.sr ?_
 simp (disch := omega) [gw]
 refine aA c1 ?_
 simp (disch := omega) [gw]
 refine W.lx [4, 5, 6, 7] ?_; simp
 refine W.sd ?_
 simp (maxSteps := 4000000) (disch := omega) [gw]
 refine aA a1 ?_
 simp (maxSteps := 4000000) (disch := omega) [gw]
 refine aA o1 ?_
 simp (maxSteps := 4000000) (disch := omega) [gw]
 refine aA m1 ?_
 simp (maxSteps := 4000000) (disch := omega) [gw]
 refine aA l1 ?_
 simp (maxSteps := 4000000) (disch := omega) [gw]
 (try (refine b8 (of_decide_eq_true (by kernel_rfl)) ?_)); (try simp (maxSteps := 4000000) (disch := omega) [gw]); (repeat rw [if_pos (by kernel_rfl)]); (try simp (maxSteps := 4000000) (disch := omega) [gw])
 refine W.lx [4] ?_; simp
 refine W.ret ?_
 simp [go]
theorem VB {p : Rat} (hp : sz LL p.num < 1099511627770 ∧ sz LL (p.den : Int) < 1099511627770) : aK env.P 86 [RT p] (RT (-p)) := by
 have n1 := qL hp.1 hp.2
 rw [j8] at n1
 have n2 := agd (x := p.num) (by show _ < _; omega)
 replace n1 : aK env.P 164 [T2 p.num p.den] (T2 p.num p.den) := n1
 show aK env.P _ [T2 p.num p.den] (T2 (-p).num (-p).den)
 rw [Rat.neg_num, Rat.neg_den]
 generalize -p.num = rn at *
 generalize p.num = pn at *
 generalize (p.den : Int) = pd at *
 refine aB (E := env) (fun _ => 0) [(0, T2 pn pd)] Tryz.func86 rfl (by kernel_rfl) (by kernel_rfl) (show 1 ≤ 10 by decide) (by simp) ?_
 refine W.sr ?_; simp (disch := omega) [gw]; refine W.lx [1, 2] ?_; simp
 refine W.sr ?_
 simp (disch := omega) [gw]
 refine aA n1 ?_
 simp (disch := omega) [gw]
 refine W.lx [1, 2] ?_; simp
 refine W.sr ?_
 simp (disch := omega) [gw]
 refine aA n2 ?_
 simp (disch := omega) [gw]
 refine W.lx [1, 2] ?_; simp
 refine W.sr ?_; simp (disch := omega) [gw]; refine W.lx [2] ?_; simp
 refine W.ret ?_
 simp [go]
theorem KF {p q : Rat} (hp : ZR YY p) (hq : ZR YY q) (hs : ZR YY (p + q)) : aK env.P 60 [RR p, RR q] (RR ((p + q) / 2)) := by
 have a1 := tE p q hp hq
 have o1 := qE 1 2 (by decide) (by decide)
 have m1 := z0 (p + q) (cR 1 2) hs ⟨by decide, by decide⟩
 have e : (p + q) * cR 1 2 = (p + q) / 2 := by
  rw [show cR 1 2 = (1 : Rat) / 2 by rw [AU (by decide)]; rfl]; grind
 rw [e] at m1
 rw [cG] at *
 rw [cG q, cG (p + q), cG (cR 1 2)] at *
 generalize (p + q) / 2 = m at *
 generalize p + q = s at *
 generalize cR 1 2 = hf at *
 generalize p.num = pn at *
 generalize (p.den : Int) = pd at *
 generalize q.num = qn at *
 generalize (q.den : Int) = qd at *
 generalize s.num = sn at *
 generalize (s.den : Int) = sd at *
 generalize hf.num = fn at *
 generalize (hf.den : Int) = fd at *
 rw [cG] at *
 generalize m.num = mn at *
 generalize (m.den : Int) = md at *
 refine aB (E := env) (fun _ => 0) [(0, R2 pn pd), (1, R2 qn qd)] Tryz.func60 rfl (by kernel_rfl) (by kernel_rfl) (show 2 ≤ 10 by decide) (by simp) ?_
 refine W.sr ?_; simp (disch := omega) [gw]; refine W.lx [2, 3, 4] ?_; simp
 refine W.sr ?_
 simp (disch := omega) [gw]
 refine aA a1 ?_
 simp (disch := omega) [gw]
 refine aA o1 ?_
 simp (disch := omega) [gw]
 refine aA m1 ?_
 simp (disch := omega) [gw]
 refine W.lx [4] ?_; simp
 refine W.ret ?_
 simp [go]
theorem aa1 {d : Int} (h : sz LL d < 4294967296) : aK env.P 34 [I d] (RI d) := by
 have h1 := C3 (decide (d < 0)) (aR LL d.natAbs) (by have : sz LL d = (aR LL d.natAbs).length := rfl; omega) (eO fQ _)
 rw [show iv (decide (d < 0)) (aR LL d.natAbs) = d from H8 d] at h1
 exact h1
theorem VC {p : Rat} (hp : sz LL p.num < 4294967296 ∧ sz LL (p.den : Int) < 4294967296) (hY : Y p.num ∧ Y (p.den : Int)) : aK env.P 28 [RT p] (RR p) := by
 have f1 := aa1 hp.1
 have f2 := aa1 hp.2
 have m1 := lA p.num p.den hY.1 hY.2
 rw [j8, cG] at m1
 rw [cG]
 show aK env.P _ [T2 p.num p.den] _
 replace f1 : aK env.P 34 [I p.num] (RI p.num) := f1
 replace f2 : aK env.P 34 [I (p.den : Int)] (RI (p.den : Int)) := f2
 generalize p.num = pn at *
 generalize (p.den : Int) = pd at *
 refine aB (E := env) (fun _ => 0) [(0, T2 pn pd)] Tryz.func28 rfl (by kernel_rfl) (by kernel_rfl) (show 1 ≤ 10 by decide) (by simp) ?_
 refine W.sr ?_; simp (disch := omega) [gw]; refine W.lx [1, 2] ?_; simp
 refine W.sd ?_
 simp (maxSteps := 4000000) (disch := omega) [gw]
 refine aA f1 ?_
 simp (maxSteps := 4000000) (disch := omega) [gw]
 refine aA f2 ?_
 simp (maxSteps := 4000000) (disch := omega) [gw]
 refine aA m1 ?_
 simp (maxSteps := 4000000) (disch := omega) [gw]
 (try (refine b8 (of_decide_eq_true (by kernel_rfl)) ?_)); (try simp (maxSteps := 4000000) (disch := omega) [gw]); (repeat rw [if_pos (by kernel_rfl)]); (try simp (maxSteps := 4000000) (disch := omega) [gw])
 refine W.lx [2] ?_; simp
 refine W.ret ?_
 simp [go]
theorem agN {x : Int} (hx : Sz x) : aK env.P 162 [I x] (I (x.natAbs : Int)) := by
 have h1 := ZJ (decide (x < 0)) (aR LL x.natAbs) hx.VY
 rw [show V 4294967296 (aR LL x.natAbs) = (x.natAbs : Int) from jF fQ _] at h1
 exact h1
def kE (x : List Int) : Nat → Int
 | 0 => 0
 | i + 1 => if kE x i < ((nth x i).natAbs : Int) then ((nth x i).natAbs : Int) else kE x i
theorem aa2 (x : List Int) : ∀ i, 0 ≤ kE x i
 | 0 => Int.le_refl _
 | i + 1 => by
  have := aa2 x i
  rw [kE]; split <;> omega
theorem aa3 (x : List Int) : ∀ i k, k < i → ((nth x k).natAbs : Int) ≤ kE x i
 | 0, k, h => by omega
 | i + 1, k, h => by
  rw [kE]
  by_cases hk : k = i
  ·subst hk; split <;> omega
  ·have := aa3 x i k (by omega)
   split <;> omega
theorem u7 {b s n : Nat} {x : List Int} (h : Bd b s n x) : ∀ i, Pm.sz b (kE x i) ≤ s
 | 0 => by show Pm.sz b 0 ≤ s; rw [i6]; omega
 | i + 1 => by
  have ih := u7 h i
  have h1 := h.nth i
  have h2 : Pm.sz b ((nth x i).natAbs : Int) = Pm.sz b (nth x i) := by unfold Pm.sz; rw [Int.natAbs_natCast]
  rw [kE]; split
  ·rw [h2]; exact h1
  ·exact ih
def iU (x : List Int) : Rat := cR (((lead x).natAbs : Int) + kE x (x.length - 1)) ((lead x).natAbs : Int)
theorem OH {α : Type} {g : α → List PV} {l : List α} {s n : Nat} {x : List Int} (hN : aK env.P 101 [aI g l] (Po x)) (cx : Cn x) (hx : x ≠ []) (b : Bd LL s n x) (hs : s < 500000000000) (hn : n < 500000000000) : aK env.P 84 [aI g l] (.eA [RT (iU x), .int .i64 0]) := by
 have nE : 0 < x.length := List.length_pos_iff.2 hx
 have hlen := b.len
 have vP := cB cx nE
 have L1 := jQ (PB.of b (by omega) (by omega)) cx
 have hld := eP b
 have A1 := agN (x := lead x) (Nat.lt_of_le_of_lt hld (by omega))
 have OI : sz LL ((lead x).natAbs : Int) ≤ s := Nat.le_trans (cA fQ (by simp)) hld
 have hm := u7 b (x.length - 1)
 have S1 := P9 (x := ((lead x).natAbs : Int)) (y := kE x (x.length - 1)) (Nat.lt_of_le_of_lt OI (by omega)) (Nat.lt_of_le_of_lt hm (by omega))
 have aun := mJ (b := LL) fQ OI hm
 have M1 := aex (n := ((lead x).natAbs : Int) + kE x (x.length - 1)) (d := ((lead x).natAbs : Int)) (by omega) (by omega) (by omega)
 replace M1 : aK env.P 163 [I (((lead x).natAbs : Int) + kE x (x.length - 1)), I ((lead x).natAbs : Int)] (.eA [T2 (iU x).num (iU x).den, .int .i64 0]) := M1
 show aK env.P _ _ (.eA [T2 (iU x).num (iU x).den, _])
 have C1 : ∀ i, i < x.length → aK env.P 162 [I (nth x i)] (I ((nth x i).natAbs : Int)) ∧ aK env.P 133 [I ((nth x i).natAbs : Int), I (kE x i)] (.int .i64 (dH ((nth x i).natAbs : Int) (kE x i))) := fun i hi => by
  have h1 := b.nth i
  have h2 : sz LL ((nth x i).natAbs : Int) ≤ s := Nat.le_trans (cA fQ (by simp)) h1
  exact ⟨agN (Nat.lt_of_le_of_lt h1 (by omega)), Y8 (Nat.lt_of_le_of_lt h2 (by omega)) (Nat.lt_of_le_of_lt (u7 b i) (by omega))⟩
 have O7 : ∀ i, kE x (i + 1) = if 0 < dH ((nth x i).natAbs : Int) (kE x i) then ((nth x i).natAbs : Int) else kE x i := fun i => by
  rw [kE]
  by_cases h : kE x i < ((nth x i).natAbs : Int)
  ·rw [if_pos h, if_pos (mV.2 h)]
  ·rw [if_neg h, if_neg (fun q => h (mV.1 q))]
 have h0 : kE x 0 = 0 := rfl
 clear hm aun OI hld
 generalize (iU x).num = rn at *
 generalize ((iU x).den : Int) = rd at *
 generalize ((lead x).natAbs : Int) + kE x (x.length - 1) = sm at *
 generalize ((lead x).natAbs : Int) = la at *
 generalize kE x = mf at *
 have e1 : ((x.length : Int) - 1).toNat = x.length - 1 := by omega
 have e2 : (x.length : Int) - 1 = ((x.length - 1 : Nat) : Int) := by omega
 refine aB (E := env) (fun _ => 0) [(0, aI g l)] Tryz.func84 rfl (by kernel_rfl) (by kernel_rfl) (show 1 ≤ 43 by decide) (by simp) ?_
 refine W.sr ?_; simp (disch := omega) [gw]; refine W.lx [0, 2] ?_; simp
 refine W.sr ?_
 simp (disch := omega) [gw]
 refine aA hN ?_
 simp (disch := omega) [gw]
 refine W.lx [0, 2] ?_; simp
 refine W.seq ?_
 refine W.sr ?_; simp (disch := omega) [gw]; refine W.lx [0, 2, 13] ?_; simp
 refine W.cond ⟨_, rfl, fun h => ?_, fun h => ?_⟩
 ·simp at h; exact absurd h hx
 refine W.skip ?_
 refine W.sr ?_; simp (disch := omega) [gw]; refine W.lx [0, 2, 4] ?_; simp
 refine W.row (id := 4) (els := [[.bool false, .nil]]) [[.bool (decide ((0 : Int) < 0)), us (aR LL (0 : Int).natAbs)]] (by simp; first | exact ⟨rfl, rfl, rfl⟩ | exact ⟨rfl, rfl⟩ | rfl) ⟨⟨.inl rfl, .inr ⟨rfl, rfl⟩, trivial⟩, trivial⟩ ?_
 refine W.seq ?_
 refine W.sr ?_
 simp (disch := omega) [gw, e1, e2]
 refine W.lx [0, 2, 4, 19, 20, 21] ?_; simp
 refine W.block ?_
 refine W.a8 (fun k σ => ∃ (v2 e2 v4 e4 i : Nat) (rows : Pm.Rows) (clk : Nat), σ = ⟨fa [(0, Po x), (2, .ptr 2 v2 0 0), (4, .ptr 4 v4 0 0), (19, aI ie (x.take (x.length - 1))), (20, .int .i64 ((x.length - 1 : Nat) : Int)), (21, .int .i64 i)], rows, clk⟩ ∧ i + k = x.length - 1 ∧
  rows 2 = some ⟨v2, e2, 4, [[.bool false, .nil, .bool false, .nil]]⟩ ∧ rows 4 = some ⟨v4, e4, 2, [[.bool (decide (mf i < 0)), us (aR LL (mf i).natAbs)]]⟩) (x.length - 1) ?_ ?_
 ·exact ⟨_, .refl, _, _, _, _, 0, _, _, rfl, by omega, by simp; (first | exact ⟨rfl, rfl⟩ | rfl), by rw [h0]; simp; (first | exact ⟨rfl, rfl⟩ | rfl)⟩
 rintro k _ ⟨v2, e2, v4, e4, i, rows, clk, rfl, FD, cI, jG⟩
 refine W.sr ?_; simp (disch := omega) [gw]; refine W.lx [0, 2, 4, 19, 20, 21, 22] ?_; simp
 refine W.seq ?_
 refine W.cond ⟨_, rfl, fun h => ?_, fun h => ?_⟩
 ·have hi : i < x.length - 1 := by simp at h; omega
  have A9 : i < x.length := by omega
  have uH : nth (x.take (x.length - 1)) i = nth x i := by unfold nth; rw [List.getElem?_take_of_lt hi]
  obtain ⟨c1, c2⟩ := C1 i A9
  have hm := O7 i
  generalize dH ((nth x i).natAbs : Int) (mf i) = cv at *
  generalize ((nth x i).natAbs : Int) = ab at *
  generalize nth x i = xi at *
  refine W.skip ?_
  refine W.eK (fun σ => ∃ (v2 e2 v4 e4 : Nat) (rows : Pm.Rows) (clk : Nat), σ = ⟨fa [(0, Po x), (2, .ptr 2 v2 0 0), (4, .ptr 4 v4 0 0), (19, aI ie (x.take (x.length - 1))), (20, .int .i64 ((x.length - 1 : Nat) : Int)), (21, .int .i64 i)], rows, clk⟩ ∧
   rows 2 = some ⟨v2, e2, 4, [[.bool false, .nil, .bool false, .nil]]⟩ ∧ rows 4 = some ⟨v4, e4, 2, [[.bool (decide (mf (i + 1) < 0)), us (aR LL (mf (i + 1)).natAbs)]]⟩) ?_ ?_
  ·refine W.sr ?_; simp (disch := omega) [gw, hi, uH]; refine W.lx [0, 2, 4, 6, 19, 20, 21] ?_; simp
   refine W.sr ?_
   simp (disch := omega) [gw]
   refine aA c1 ?_
   simp (disch := omega) [gw]
   refine W.lx [0, 2, 4, 7, 19, 20, 21] ?_; simp
   refine W.sr ?_
   simp (disch := omega) [gw, jG]
   refine aA c2 ?_
   simp (disch := omega) [gw]
   refine W.lx [0, 2, 4, 7, 19, 20, 21, 30] ?_; simp
   refine W.cond ⟨_, rfl, fun h => ?_, fun h => ?_⟩
   ·have h : 0 < cv := by simpa using h
    rw [if_pos h] at hm
    refine W.bY (fun K hK => ?_); simp (disch := omega) [gw, jG]
    exact hK _ ⟨_, aC _ [0, 2, 4, 19, 20, 21], _, _, _, _, _, _, rfl, by simp [cI]; exact rfl, by simp [hm]; exact rfl⟩
   ·have h : ¬ 0 < cv := by simpa using h
    rw [if_neg h] at hm
    refine W.skip ?_
    exact ⟨_, aC _ [0, 2, 4, 19, 20, 21], _, _, _, _, _, _, rfl, by simp [cI]; exact rfl, by simp [hm, jG]; exact rfl⟩
  rintro _ ⟨v2, e2, v4, e4, rows, clk, rfl, cI, jG⟩
  refine W.bY (fun K hK => ?_); simp (disch := omega) [gw]
  refine hK _ ⟨k - 1, _, aC _ [0, 2, 4, 19, 20, 21], by omega, _, _, _, _, i + 1, _, _, rfl, by omega, cI, jG⟩
 ·have hi : i = x.length - 1 := by simp at h; omega
  subst hi
  refine W.exit ?_; simp only [pX, if_true, if_false, reduceIte, Nat.reduceEqDiff]
  refine W.sr ?_
  simp (disch := omega) [gw]
  refine aA L1 ?_
  simp (disch := omega) [gw]
  refine aA A1 ?_
  simp (disch := omega) [gw]
  refine W.lx [2, 4, 8] ?_; simp
  refine W.sd ?_
  simp (disch := omega) [gw, jG]
  refine aA S1 ?_
  simp (maxSteps := 4000000) (disch := omega) [gw]
  refine aA M1 ?_
  simp (disch := omega) [gw, cI]
  (try (refine b8 (of_decide_eq_true (by kernel_rfl)) ?_)); (try simp (maxSteps := 4000000) (disch := omega) [gw, cI]); (repeat rw [if_pos (by kernel_rfl)]); (try simp (maxSteps := 4000000) (disch := omega) [gw, cI])
  refine W.lx [2, 3] ?_; simp
  refine W.ret ?_
  simp [go]
theorem AV {x : List Int} (cx : Cn x) (hx : x ≠ []) : iU x = 1 + ((kE x (x.length - 1) : Int) : Rat) / (((lead x).natAbs : Int) : Rat) := by
 have vP := cB cx (List.length_pos_iff.2 hx)
 have h1 : ((lead x).natAbs : Int) ≠ 0 := by omega
 have h2 : (((lead x).natAbs : Int) : Rat) ≠ 0 := fun h => h1 (Rat.intCast_eq_zero_iff.1 h)
 refine OG h1 ?_
 rw [Rat.intCast_add]
 have h3 := Rat.div_mul_cancel (a := ((kE x (x.length - 1) : Int) : Rat)) h2
 generalize ((kE x (x.length - 1) : Int) : Rat) / (((lead x).natAbs : Int) : Rat) = w at *
 grind
theorem ajR {u v : Int} {k : Nat} (hu : sz 2 u ≤ k) (hv : sz 2 v ≤ k) (h0 : v ≠ 0) : ZR k ((u : Rat) / (v : Rat)) := by
 rw [← AU h0]
 have e : ∀ w : Int, sz 2 (-w) = sz 2 w := fun w => by unfold sz; rw [Int.natAbs_neg]
 constructor
 ·rw [qC u v h0]
  refine Nat.le_trans (cA (b := 2) (by decide) (Int.natAbs_ediv_le_natAbs _ _)) ?_
  split
  ·rw [e]; exact hu
  ·exact hu
 ·rw [qD u v h0]
  refine Nat.le_trans (cA (b := 2) (by decide) (Int.natAbs_ediv_le_natAbs _ _)) ?_
  split
  ·rw [e]; exact hv
  ·exact hv
theorem OJ {s n : Nat} {x : List Int} (cx : Cn x) (hx : x ≠ []) (b : Bd 2 s n x) (qA : 1 ≤ s) (hs : s ≤ 1000000000) (hn : n < 1099511627776) : aK env.P 88 [PI x] (RR (iU x)) := by
 have nE : 0 < x.length := List.length_pos_iff.2 hx
 have hlen := b.len
 have vP := cB cx nE
 have hY : YY = 137438953472 := rfl
 have hO := qE 1 1 (by decide) (by decide)
 rw [show cR 1 1 = 1 from by decide] at hO
 have EG : x.length < 2 → iU x = 1 := fun h => by
  rw [AV cx hx, show x.length - 1 = 0 by omega]
  show 1 + ((0 : Int) : Rat) / _ = 1
  rw [Rat.intCast_zero, Rat.div_def, Rat.zero_mul, Rat.add_zero]
 have hld := eP b
 have OI : sz 2 ((lead x).natAbs : Int) ≤ s := Nat.le_trans (cA (b := 2) (by decide) (by simp)) hld
 have hm := u7 b (x.length - 1)
 have Z1 : ∀ {v : Int}, sz 2 v ≤ s → ZR YY ((v : Int) : Rat) := fun h => mL (by omega) (by decide)
 have Q1 := z5 ((kE x (x.length - 1) : Int) : Rat) (((lead x).natAbs : Int) : Rat) (Z1 hm) (Z1 OI) (fun h => by have := Rat.intCast_eq_zero_iff.1 h; omega)
 have hz := ajR (k := YY) (Nat.le_trans hm (by omega)) (Nat.le_trans OI (by omega)) (by omega : ((lead x).natAbs : Int) ≠ 0)
 have A1 := tE 1 (((kE x (x.length - 1) : Int) : Rat) / (((lead x).natAbs : Int) : Rat)) ⟨by decide, by decide⟩ hz
 rw [← AV cx hx] at A1
 have C1 : ∀ i, i < x.length → aK env.P 27 [R2 ((nth x i).natAbs : Int) 1, R2 (kE x i) 1] (.int .i64 (dH ((nth x i).natAbs : Int) (kE x i))) := fun i hi => by
  have h1 := b.nth i
  have h2 : sz 2 ((nth x i).natAbs : Int) ≤ s := Nat.le_trans (cA (b := 2) (by decide) (by simp)) h1
  have h3 := u7 b i
  have := u3 ((nth x i).natAbs : Int) 1 (kE x i) 1 (by omega) (by decide) (by omega) (by decide)
  rwa [Int.mul_one, Int.mul_one] at this
 have O7 : ∀ i, kE x (i + 1) = if 0 < dH ((nth x i).natAbs : Int) (kE x i) then ((nth x i).natAbs : Int) else kE x i := fun i => by
  rw [kE]
  by_cases h : kE x i < ((nth x i).natAbs : Int)
  ·rw [if_pos h, if_pos (mV.2 h)]
  ·rw [if_neg h, if_neg (fun q => h (mV.1 q))]
 have h0 : kE x 0 = 0 := rfl
 have qP := m6
 have apv : nth x (x.length - 1) = lead x := rfl
 have hd : ∀ v : Int, decide (((v.natAbs : Int)) < 0) = false := fun v => decide_eq_false (by omega)
 have hna : ∀ v : Int, ((v.natAbs : Int)).natAbs = v.natAbs := fun v => Int.natAbs_natCast _
 clear hm hld OI hz Z1
 rw [show RR ((kE x (x.length - 1) : Int) : Rat) = .ag (ri (kE x (x.length - 1))) from congrArg PV.ag (fL _), show RR (((lead x).natAbs : Int) : Rat) = .ag (ri ((lead x).natAbs : Int)) from congrArg PV.ag (fL _)] at Q1
 rw [show RR (1 : Rat) = .ag (ri 1) from congrArg PV.ag (fL 1)] at A1 hO
 generalize ((kE x (x.length - 1) : Int) : Rat) / (((lead x).natAbs : Int) : Rat) = qq at *
 generalize hbd : iU x = B at *
 simp only [cG] at Q1 A1 ⊢
 have vS : x.length < 2 → R2 B.num (B.den : Int) = .ag (ri 1) := fun h => by rw [EG h]; rfl
 generalize B.num = bn at *
 generalize (B.den : Int) = bd at *
 generalize qq.num = qn at *
 generalize (qq.den : Int) = qd at *
 generalize hmf : kE x = mf at *
 have e1 : ((x.length : Int) - 1).toNat = x.length - 1 := by omega
 refine aB (E := env) (fun _ => 0) [(0, PI x)] Tryz.func88 rfl (by kernel_rfl) (by kernel_rfl) (show 1 ≤ 43 by decide) (by simp) ?_
 refine W.sr ?_; simp (disch := omega) [gw]; refine W.lx [0, 2] ?_; simp
 refine W.sr ?_
 simp (disch := omega) [gw]
 refine aA qP ?_
 simp (disch := omega) [gw]
 refine W.lx [0, 2, 3] ?_; simp
 refine W.seq ?_
 refine W.sr ?_; simp (disch := omega) [gw]; refine W.lx [0, 2, 3, 4] ?_; simp
 refine W.block ?_
 refine W.a8 (fun k σ => ∃ (v2 e2 v3 e3 i : Nat) (rows : Pm.Rows) (clk : Nat), σ = ⟨fa [(0, PI x), (2, .ptr 2 v2 0 0), (3, .ptr 3 v3 0 0), (4, .int .i64 i)], rows, clk⟩ ∧ i + k = x.length - 1 ∧
  rows 2 = some ⟨v2, e2, 4, [[.nil, .bool false, .nil, .bool false]]⟩ ∧ rows 3 = some ⟨v3, e3, 4, [[aI aD (aR DD (mf i).natAbs), .bool (decide (mf i < 0)), aI aD (aR DD 1), .bool false]]⟩) (x.length - 1) ?_ ?_
 ·exact ⟨_, .refl, _, _, _, _, 0, _, _, rfl, by omega, by simp; (first | exact ⟨rfl, rfl⟩ | rfl), by rw [h0]; simp; (first | exact ⟨rfl, rfl⟩ | rfl)⟩
 rintro k _ ⟨v2, e2, v3, e3, i, rows, clk, rfl, FD, cI, fY⟩
 refine W.seq ?_
 refine W.sr ?_; simp (disch := omega) [gw]; refine W.lx [0, 2, 3, 4, 12] ?_; simp
 refine W.cond ⟨_, rfl, fun h => ?_, fun h => ?_⟩
 ·have hi : i < x.length - 1 := by simp at h; omega
  have A9 : i < x.length := by omega
  have c1 := C1 i A9
  have hm := O7 i
  have M9 := hd (nth x i)
  have tS := hna (nth x i)
  simp only [M9, tS, RB, R2] at c1
  generalize dH ((nth x i).natAbs : Int) (mf i) = cv at *
  refine W.skip ?_
  refine W.eK (fun σ => ∃ (v2 e2 v3 e3 : Nat) (rows : Pm.Rows) (clk : Nat), σ = ⟨fa [(0, PI x), (2, .ptr 2 v2 0 0), (3, .ptr 3 v3 0 0), (4, .int .i64 i)], rows, clk⟩ ∧
   rows 2 = some ⟨v2, e2, 4, [[.nil, .bool false, .nil, .bool false]]⟩ ∧ rows 3 = some ⟨v3, e3, 4, [[aI aD (aR DD (mf (i + 1)).natAbs), .bool (decide (mf (i + 1) < 0)), aI aD (aR DD 1), .bool false]]⟩) ?_ ?_
  ·refine W.sr ?_; simp (disch := omega) [gw, A9]; refine W.lx [0, 2, 3, 4, 5] ?_; simp
   refine W.sr ?_; simp (disch := omega) [gw]; refine W.lx [0, 2, 3, 4, 5] ?_; simp
   refine W.sr ?_
   simp (disch := omega) [gw, fY]
   refine aA c1 ?_
   simp (disch := omega) [gw]
   refine W.lx [0, 2, 3, 4, 5, 24] ?_; simp
   refine W.cond ⟨_, rfl, fun h => ?_, fun h => ?_⟩
   ·have h : 0 < cv := by simpa using h
    rw [if_pos h] at hm
    refine W.bY (fun K hK => ?_); simp (disch := omega) [gw, fY]
    exact hK _ ⟨_, aC _ [0, 2, 3, 4], _, _, _, _, _, _, rfl, by simp [cI]; exact rfl, by simp [hm, M9, tS]; exact rfl⟩
   ·have h : ¬ 0 < cv := by simpa using h
    rw [if_neg h] at hm
    refine W.skip ?_
    exact ⟨_, aC _ [0, 2, 3, 4], _, _, _, _, _, _, rfl, by simp [cI]; exact rfl, by simp [hm, fY]; exact rfl⟩
  rintro _ ⟨v2, e2, v3, e3, rows, clk, rfl, cI, fY⟩
  refine W.bY (fun K hK => ?_); simp (disch := omega) [gw]
  refine hK _ ⟨k - 1, _, aC _ [0, 2, 3, 4], by omega, _, _, _, _, i + 1, _, _, rfl, by omega, cI, fY⟩
 ·have hi : i = x.length - 1 := by simp at h; omega
  subst hi
  refine W.exit ?_; simp only [pX, if_true, if_false, reduceIte, Nat.reduceEqDiff]
  refine W.seq ?_
  refine W.sr ?_; simp (disch := omega) [gw]; refine W.lx [0, 2, 3, 28] ?_; simp
  refine W.cond ⟨_, rfl, fun h => ?_, fun h => ?_⟩
  ·have h : x.length < 2 := by simp at h; omega
   rw [vS h]
   refine W.sr ?_
   simp (disch := omega) [gw]
   refine aA hO ?_
   simp (disch := omega) [gw, cI]
   refine W.lx [2] ?_; simp
   refine W.ret ?_
   simp [go]
  ·have h : ¬ x.length < 2 := by simp at h; omega
   have A9 : x.length - 1 < x.length := by omega
   have M9 := hd (lead x)
   have tS := hna (lead x)
   simp only [R2, ajh, RB, M9, tS] at Q1 A1
   refine W.skip ?_
   refine W.sr ?_; simp (disch := omega) [gw, A9, e1, apv]; refine W.lx [2, 3, 6] ?_; simp
   refine W.sr ?_; simp (disch := omega) [gw]; refine W.lx [2, 3, 6] ?_; simp
   refine W.sd ?_
   simp (disch := omega) [gw]
   refine aA hO ?_
   simp (disch := omega) [gw, fY]
   refine aA Q1 ?_
   simp (disch := omega) [gw]
   refine aA A1 ?_
   simp (disch := omega) [gw, cI]
   (try (refine b8 (of_decide_eq_true (by kernel_rfl)) ?_)); (try simp (maxSteps := 4000000) (disch := omega) [gw, cI]); (repeat rw [if_pos (by kernel_rfl)]); (try simp (maxSteps := 4000000) (disch := omega) [gw, cI])
   refine W.lx [2] ?_; simp
   refine W.ret ?_
   simp [go]
end Go.Proofs.YtbbjgncblhfegaaGreat
