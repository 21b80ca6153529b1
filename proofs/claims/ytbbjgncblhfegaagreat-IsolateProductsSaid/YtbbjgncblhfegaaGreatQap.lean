import Derived.Test.YtbbjgncblhfegaaGreatQan
import Derived.Test.YtbbjgncblhfegaaGreatQao
set_option linter.unusedSimpArgs false
set_option linter.unusedVariables false
namespace Go.Proofs.YtbbjgncblhfegaaGreat
open Go Pm
open ZX hiding N W
theorem QK {a : ZX} (ha : a ≠ 0) : Nf (sq a) ∧ dv (sq a) (nf a) := by
 have nA := lV ha
 unfold sq
 split
 ·exact ⟨nA, dv.refl _⟩
 ·exact ⟨(gV nA 0).1, E9 nA 0⟩
theorem uL.sqb {s n : Nat} {a : ZX} (h : uL s n a) (ha : a ≠ 0) : BZ (qb s n) n (sq a) := h.nfz.dv (lV ha) (QK ha).1 (QK ha).2
theorem uL.ch {s n : Nat} {a : ZX} (h : uL s n a) (ha : a ≠ 0) (AG : 1 ≤ n) : Ch (qb s n) n (sq a) := ⟨h.sqb ha, h.hn, AG, Nat.le_trans (Nat.mul_le_mul_right _ (by omega)) h.hC⟩
theorem NI {s n : Nat} {a : ZX} (h : uL s n a) (ha : a ≠ 0) (AG : 1 ≤ n) (h1 : 1 ≤ s) : aL env.P 57 [PI a.l] (aJ zq (bE (sq a))) :=
 wQ (tV h h1) (h.ch ha AG) (by unfold qb; omega)
section
variable {x : List Int} {C : List ZX} {n d : Int}
end
end Go.Proofs.YtbbjgncblhfegaaGreat
namespace Pm
open Go Go.RowKit
def T5 (E : Env) (o : Oper) (K : PS → Prop) (σ : PS) : Prop :=
 match o.op with
 | .build t ⟨[(0, x)]⟩ => E.ty t = .struct [(0, 1, false)] (E.ty t).zero ∧ (E.ty t).zero.length = 1 ∧ bP (aQ σ.f x) = some [aQ σ.f x] ∧ gN σ.rows (aQ σ.f x) ∧ K (σ.put o.dst (.ag [aQ σ.f x]))
 | _ => False
section
variable {E : Env} {w0 : World} {S0 : dB} {m : Nat} {G : Gs}
theorem NJ {o : Oper} {a : Act} {w : World} {σ : PS} {K : PS → Prop} (h : T5 E o K σ) (hR : Rel w0 S0 m G σ a w) (hd : ∀ t, o.dst = some t → t < m)
  {K' : Act → World → Prop} {Q : Exit → Act → World → Prop} (hK : ∀ σ' a' w', K σ' → Rel w0 S0 m G σ' a' w' → K' a' w') : o.wp E.P a w K' Q := by
 obtain ⟨⟨c, rfl, hr, eT, hI, hf, hG⟩, hn, eK⟩ := hR
 have hρ := kD hf
 obtain ⟨dst, op, type, pos, after, guard⟩ := o
 simp only at hd
 unfold T5 at h
 simp only at h
 split at h
 ·rename_i t x
  obtain ⟨hE, DV, hc, ho, hk⟩ := h
  rw [← hr] at ho
  obtain ⟨g1, g2⟩ := kN (hρ x) hc (fun q hq => by simp at hq; subst hq; exact ho)
  have ht := E.ok t
  rw [hE] at ht
  obtain ⟨⟨fields, hu, ha⟩, hz⟩ := ht
  obtain ⟨i, zv, hi, hzv, _, K2, _⟩ := hz.ok
  have AY : zv.cells.size = 1 := by
   have : (zv.cells.toList.map gX).length = 1 := by rw [K2]; exact DV
   simpa using this
  have GN : (a.eval x).cells.size = 1 := by have := g1.length; simpa using this.symm
  have BV := m7 0 (a.eval x).cells.toList 0 zv.cells (by simp; omega)
  have hl : ((a.eval x).cells.toList.zipIdx 0).foldl (fun cs (x : Value × Nat) => cs.setIfInBounds (0 + x.2) x.1) zv.cells = (a.eval x).cells := by
   apply Array.toList_inj.1
   rw [BV]
   have h1 : (a.eval x).cells.toList.length = 1 := by simpa using GN
   have h2 : zv.cells.toList.length = 1 := by simpa using AY
   rw [h1]
   simp [List.drop_of_length_le, h2]
  have iU : (execOp a.eval { dst := dst, op := .build t ⟨[(0, x)]⟩, type := type, pos := pos, after := after, guard := guard }).run E.P c.w = .ok (.value (.agg (a.eval x).cells)) c.w := by
   have agb : Instr.fill (fun x => (([(0, 1, false)] : List (Nat × Nat × Bool)).toArray.map fun x => (x.1, x.2.1))[x]?) zv.cells [(0, a.eval x)] = some (a.eval x).cells := by
    have OB : (([(0, 1, false)] : List (Nat × Nat × Bool)).toArray.map fun x => (x.1, x.2.1))[0]? = some (0, 1) := by simp
    simp only [Instr.fill, OB]
    rw [if_neg (by simp [GN, AY])]
    have hz3 : (a.eval x).cells.toList.zipIdx = (a.eval x).cells.zipIdx.toList := by simp
    have h5 : (a.eval x).cells.zipIdx.foldl (fun cs (x : Value × Nat) => cs.setIfInBounds (0 + x.2) x.1) zv.cells = (a.eval x).cells := by
     rw [← Array.foldl_toList, ← hz3]; exact hl
    simp only [h5]
   simp only [execOp, Instr.build, zeroValue, typeInfo, program, Sem.run_bind, Sem.run, hi, hzv, Sem.run_pure, Result.andThen_ok, run_underlying hu, run_places ha]
   simp at agb
   simp [agb]
  unfold Oper.wp
  rw [iU]
  refine hK _ _ _ hk ?_
  exact lK hf hG hn eK (rF.refl c) hI (show aI c (.ag [aQ σ.f x]) (.agg (a.eval x).cells) from ⟨(a.eval x).cells.toList, by simp, g1⟩) hd rfl (by simp [PS.put, hr]) eT
 ·exact h.elim
end
theorem W.aje {E : Env} {n : Nat} {tl : Nat → Nat} {Q : PX → PS → Prop} {σ : PS} {id : Nat} {ops : List Oper} {y : Code} (i : Nat) {o o2 : Oper} (ho : ops = ops.take i ++ o :: o2 :: ops.drop (i + 2)) (hg : o.guard = none) (oP : o2.guard = none)
  (h : ∀ K : PS → Prop, (∀ σ, W E n tl y Q σ → K σ) → go (aK E ops (ops.take i) (fun σ => BL E o (fun σ => T5 E o2 (aK E ops (ops.drop (i + 2)) K) σ) σ) σ)) : W E n tl (.seq (.region id ops.toArray false) y) Q σ := by
 refine W.seq ?_
 intro fF w0 S0 G a w Q' hR hQ
 simp only [eB, oT, Bool.and_eq_true] at fF
 have hd : ∀ o ∈ ops, ∀ t, o.dst = some t → t < n := fun o ho t ht => by
  have := Array.all_eq_true_iff_forall_mem.1 fF.1 o (by simpa using ho)
  simpa [ht] using this
 refine wp_region_list ?_
 show wpList E.P ops.toArray Q' ops a w
 have h1 := h (fun σ => W E n tl y Q σ) fun _ h => h
 have rL : o ∈ ops := by rw [ho]; simp
 have aoP : o2 ∈ ops := by rw [ho]; simp
 have := lZ (E := E) (w0 := w0) (S0 := S0) (m := n) (G := G) (ops := ops.toArray) (Q := Q') (l2 := o :: o2 :: ops.drop (i + 2)) (K := fun σ => BL E o (fun σ => T5 E o2 (aK E ops (ops.drop (i + 2)) (fun σ => W E n tl y Q σ)) σ) σ) (fun σ' a' w' hl jZ => by
  unfold wpList
  rw [if_pos (by simp [Region.wanted, hg])]
  refine .inl (r5 hl jZ (hd o rL) fun σ2 a2 w2 hk hR2 => ?_)
  unfold wpList
  rw [if_pos (by simp [Region.wanted, oP])]
  refine .inl (NJ hk hR2 (hd o2 aoP) fun σ3 a3 w3 hk3 hR3 => ?_)
  exact fO (E := E) (ops := ops.toArray) (fun σ4 a4 w4 hk4 hR4 => hQ .normal σ4 a4 w4 hk4 hR4) _ σ3 a3 w3 (fun o ho => hd o (List.mem_of_mem_drop ho)) hk3 hR3) (ops.take i) σ a w (fun o ho => hd o (List.mem_of_mem_take ho)) h1 hR
 rwa [← ho] at this
@[simp] theorem aqJ {E : Env} {K : PS → Prop} {f : Nat → PV} {rows : Rows} {clk : Nat} {d : Option Tmp} {ty : TypeId} {pos : String} {af : Array Edge} {t : TypeId} {x : Operand} :
  T5 E ⟨d, .build t ⟨[(0, x)]⟩, ty, pos, af, none⟩ K ⟨f, rows, clk⟩ = aH (E.ty t = .struct [(0, 1, false)] (E.ty t).zero ∧ (E.ty t).zero.length = 1) (eM (bP (aQ f x)) fun l => aH (l = [aQ f x] ∧ fP rows [aQ f x]) (K ⟨put f d (.ag [aQ f x]), rows, clk⟩)) := by
 simp only [T5, aH, eM, fP, PS.put]
 apply propext
 constructor
 ·rintro ⟨h1, h2, h3, h4, h5⟩; exact ⟨⟨h1, h2⟩, _, h3, ⟨rfl, by simpa using h4⟩, h5⟩
 ·rintro ⟨⟨h1, h2⟩, l, h3, ⟨rfl, h4⟩, h5⟩; exact ⟨h1, h2, h3, by simpa using h4, h5⟩
end Pm
namespace Go.Proofs.YtbbjgncblhfegaaGreat
open Go Pm
theorem BZ.aoQ {s s' n n' m : Nat} {a c : ZX} (b : BZ s n a) (b' : BZ s' n' c) (hm : ZX.N (a * c) ≤ m) : BZ (s + s' + n') m (a * c) := by
 have h := Bd.bI (by decide) b' b
 rw [uV] at h
 exact ⟨hm, fun d hd => Nat.le_trans (h.sz d hd) (by omega)⟩
theorem aah {f : ZX} (hf : f ≠ 0) (bf : BZ 3 3 f) : ∀ k, 1 ≤ k → BZ (6 * k) (2 * k + 1) (f ^ k) ∧ f ^ k ≠ 0 ∧ ZX.N (f ^ k) = k * (ZX.N f - 1) + 1
 | 0, h => by omega
 | 1, _ => by
  have e : f ^ 1 = f := by rw [ZX.pow_succ', ZX.gC]; grind
  rw [e]
  have := ZX.aG.1 hf
  exact ⟨bf.mono (by omega) (by omega), hf, by omega⟩
 | k + 2, _ => by
  obtain ⟨h1, h2, h3⟩ := aah hf bf (k + 1) (by omega)
  have hN := ZX.aG.1 hf
  have e : ZX.N (f ^ (k + 2)) = (k + 2) * (ZX.N f - 1) + 1 := by
   rw [ZX.pow_succ', ZX.kB h2 hf, h3, Nat.add_mul, Nat.add_mul]; omega
  have hl : ZX.N f ≤ 3 := bf.N
  refine ⟨?_, ZX.kZ h2 hf, e⟩
  have h4 := BZ.aoQ h1 bf (m := 2 * (k + 2) + 1) (by
   rw [← ZX.pow_succ', e]
   have : (k + 2) * (ZX.N f - 1) ≤ (k + 2) * 2 := Nat.mul_le_mul_left _ (by omega)
   omega)
  rw [ZX.pow_succ']
  exact h4.mono (by omega) (Nat.le_refl _)
theorem NK {x : List Int} (hx : x ≠ []) (hl : x.length ≤ 3) (hc : ∀ c ∈ x, c.natAbs < 8) (aoR : x.getLast hx ≠ 0) : BZ 3 3 (ZX.of x) ∧ (ZX.of x).l = x ∧ ZX.of x ≠ 0 := by
 have h1 : aM x = x := by
  obtain ⟨y, z, rfl⟩ : ∃ y z, x = y ++ [z] := ⟨x.dropLast, x.getLast hx, (List.dropLast_concat_getLast hx).symm⟩
  exact iZ (by simpa using aoR) y
 have h2 : (ZX.of x).l = x := h1
 refine ⟨⟨by rw [h2]; exact hl, fun c MY => ?_⟩, h2, ZX.aG.2 ?_⟩
 ·rw [h2] at MY
  exact cS (by decide) (by have := hc c MY; show _ < 8; exact this)
 ·show 0 < (ZX.of x).l.length
  rw [h2]; exact List.length_pos_iff.2 hx
def fE (l : List Int) (i : Nat) : List Int :=
 if (nth l i).tmod 5 = 3 then [-(nth l i % 9 - 4), nth l (i + 2) % 3 - 1, nth l (i + 1) % 5 + 1] else [-(nth l i % 9 - 4), nth l (i + 1) % 5 + 1]
def pL (l : List Int) (i : Nat) : Nat := 1 + (nth l (i + 2) % 3).toNat
def tZ (l : List Int) (most i : Nat) (p : ZX) : ZX := if most < ZX.N p - 1 + pL l i * (ZX.N (ZX.of (fE l i)) - 1) then p else p * ZX.of (fE l i) ^ pL l i
def c9 (l : List Int) (most : Nat) : Nat → ZX
 | 0 => 1
 | j + 1 => tZ l most (3 * j) (c9 l most j)
def made (l : List Int) (most : Nat) : ZX := if (0 < l.length ∧ (nth l 0).tmod 7 = 6) then ZX.K (-3) * c9 l most (min 6 (l.length / 3)) else c9 l most (min 6 (l.length / 3))
theorem xT (l : List Int) (i : Nat) : BZ 3 3 (ZX.of (fE l i)) ∧ (ZX.of (fE l i)).l = fE l i ∧ ZX.of (fE l i) ≠ 0 := by
 have h9 := Int.emod_nonneg (nth l i) (show (9 : Int) ≠ 0 by decide)
 have h9' := Int.emod_lt_of_pos (nth l i) (show (0 : Int) < 9 by decide)
 have h5 := Int.emod_nonneg (nth l (i + 1)) (show (5 : Int) ≠ 0 by decide)
 have h5' := Int.emod_lt_of_pos (nth l (i + 1)) (show (0 : Int) < 5 by decide)
 have h3 := Int.emod_nonneg (nth l (i + 2)) (show (3 : Int) ≠ 0 by decide)
 have h3' := Int.emod_lt_of_pos (nth l (i + 2)) (show (0 : Int) < 3 by decide)
 unfold fE
 split
 ·refine NK (by simp) (by simp) (fun c hc => ?_) (by simp; omega)
  simp only [List.mem_cons, List.not_mem_nil, or_false] at hc
  rcases hc with rfl | rfl | rfl <;> omega
 ·refine NK (by simp) (by simp) (fun c hc => ?_) (by simp; omega)
  simp only [List.mem_cons, List.not_mem_nil, or_false] at hc
  rcases hc with rfl | rfl <;> omega
theorem FJ (l : List Int) (i : Nat) : 1 ≤ pL l i ∧ pL l i ≤ 3 := by
 have h3 := Int.emod_nonneg (nth l (i + 2)) (show (3 : Int) ≠ 0 by decide)
 have h3' := Int.emod_lt_of_pos (nth l (i + 2)) (show (0 : Int) < 3 by decide)
 unfold pL; omega
theorem aai {l : List Int} {most i s : Nat} {p : ZX} (hp : p ≠ 0) (b : BZ s (most + 1) p) : tZ l most i p ≠ 0 ∧ BZ (s + 25) (most + 1) (tZ l most i p) := by
 obtain ⟨b1, b2, b3⟩ := xT l i
 obtain ⟨e1, e2⟩ := FJ l i
 obtain ⟨h1, h2, h3⟩ := aah b3 b1 _ e1
 unfold tZ
 split
 ·exact ⟨hp, b.mono (by omega) (Nat.le_refl _)⟩
 ·rename_i h
  have hN := ZX.aG.1 hp
  refine ⟨ZX.kZ hp h2, (BZ.aoQ b h1 (m := most + 1) (by rw [ZX.kB hp h2, h3]; omega)).mono (by omega) (Nat.le_refl _)⟩
theorem lB (l : List Int) (most : Nat) : ∀ j, c9 l most j ≠ 0 ∧ BZ (1 + 25 * j) (most + 1) (c9 l most j)
 | 0 => ⟨ZX.pH, by show (1 : ZX).l.length ≤ most + 1; exact Nat.succ_le_succ (Nat.zero_le _), fun c hc => by
  have h1 : (1 : ZX).l = [1] := by decide
  have U9 : c ∈ (1 : ZX).l := hc
  rw [h1] at U9
  simp at U9; subst U9
  exact cS (by decide) (by decide)⟩
 | j + 1 => by
  obtain ⟨h1, h2⟩ := lB l most j
  obtain ⟨h3, h4⟩ := aai (l := l) (i := 3 * j) h1 h2
  exact ⟨h3, h4.mono (by omega) (Nat.le_refl _)⟩
theorem FK (l : List Int) (most : Nat) : made l most ≠ 0 ∧ BZ 153 (most + 1) (made l most) := by
 obtain ⟨h1, h2⟩ := lB l most (min 6 (l.length / 3))
 unfold made
 split
 ·refine ⟨ZX.kZ (ZX.rY (by decide)) h1, ?_⟩
  rw [BZ, K_l (by decide)]
  exact ⟨by have := h2.len; simpa using this, fun c hc => by
   simp only [List.mem_map] at hc
   obtain ⟨d, hd, rfl⟩ := hc
   exact Nat.le_trans (bS (by decide) (h2.sz d hd) (cS (k := 2) (by decide) (by decide))) (by omega)⟩
 ·exact ⟨h1, h2.mono (by omega) (Nat.le_refl _)⟩
theorem JV (l : List Int) (hl : l.length < 9223372036854775808) (hb : ∀ x ∈ l, -9223372036854775808 ≤ x ∧ x < 9223372036854775808) (most : Nat) (hm : most ≤ 100) : aL env.P 20 [aJ aF l, .int .i64 most] (PI (made l most).l) := by
 obtain ⟨J, hJ⟩ : ∃ J, J = min 6 (l.length / 3) := ⟨_, rfl⟩
 have gO := tU
 have hmd : made l most = if (0 < l.length ∧ (nth l 0).tmod 7 = 6) then ZX.K (-3) * c9 l most J else c9 l most J := by rw [hJ]; rfl
 rw [hmd]
 have h0 : (1 : ZX).l = (c9 l most 0).l := rfl
 rw [h0] at gO
 generalize hg0 : (c9 l most 0).l = g0 at *
 refine aB (E := env) (fun _ => 0) [(0, aJ aF l), (1, .int .i64 most)] Tryz.func20 rfl (by kernel_rfl) (by kernel_rfl) (show 2 ≤ 100 by decide) (by simp) ?_
 refine W.sr ?_; simp (disch := omega) [gw]; refine W.lx [0, 1] ?_; simp
 refine W.sr ?_
 simp (disch := omega) [gw]
 refine aA gO ?_
 simp (disch := omega) [gw]
 refine W.lx [0, 1, 5] ?_; simp
 refine W.seq ?_
 refine W.sr ?_; simp (disch := omega) [gw]; refine W.lx [0, 1, 5, 6] ?_; simp
 subst hg0
 refine W.block ?_
 refine W.bB (fun k σ => ∃ (i j : Nat) (rows : Pm.Rows) (clk : Nat), σ = ⟨fa [(0, aJ aF l), (1, .int .i64 most), (5, PI (c9 l most j).l), (6, .int .i64 i)], rows, clk⟩ ∧ i = 3 * j ∧ j + k = J) J ?_ ?_
 ·exact ⟨_, .refl, 0, 0, _, _, rfl, rfl, by omega⟩
 rintro k _ ⟨i, j, rows, clk, rfl, hij, hjk⟩
 refine W.seq ?_
 by_cases hj : j < J
 ·have a1 : (i : Int) + 2 < (l.length : Int) := by omega
  have a2 : (i : Int) < 18 := by omega
  refine W.dD (fun K hK => ?_)
  simp (disch := omega) [gw, a1, a2]
  refine W.lw [0, 1, 5, 6, 21] hK ?_; clear hK K; simp
  refine W.cond ⟨_, rfl, fun h => ?_, fun h => ?_⟩
  rotate_left
  ·cases h
  clear h
  obtain ⟨f1, f2, f3⟩ := xT l i
  obtain ⟨e1, e2⟩ := FJ l i
  obtain ⟨p1, p2, p3⟩ := aah f3 f1 _ e1
  obtain ⟨m1, m2⟩ := lB l most j
  have hJ6 : J ≤ 6 := by omega
  have hms : c9 l most (j + 1) = tZ l most i (c9 l most j) := by rw [hij]; rfl
  have w1 := rT (nth l i) 9 (hb _ (bK (by omega))) (by decide) (by decide)
  have w2 := rT (nth l (i + 1)) 5 (hb _ (bK (by omega))) (by decide) (by decide)
  have w3 := rT (nth l (i + 2)) 3 (hb _ (bK (by omega))) (by decide) (by decide)
  have bi := hb _ (bK (show i < l.length by omega))
  have h9 := Int.emod_nonneg (nth l i) (show (9 : Int) ≠ 0 by decide)
  have h9' := Int.emod_lt_of_pos (nth l i) (show (0 : Int) < 9 by decide)
  have h5 := Int.emod_nonneg (nth l (i + 1)) (show (5 : Int) ≠ 0 by decide)
  have h5' := Int.emod_lt_of_pos (nth l (i + 1)) (show (0 : Int) < 5 by decide)
  have h3 := Int.emod_nonneg (nth l (i + 2)) (show (3 : Int) ≠ 0 by decide)
  have h3' := Int.emod_lt_of_pos (nth l (i + 2)) (show (0 : Int) < 3 by decide)
  have aoS := TT (a := ZX.of (fE l i)) (k := pL l i) (by omega) (fun r hr => by
   rcases Nat.eq_zero_or_pos r with h0 | h0
   ·subst h0
    have h1 : BZ 1 1 (1 : ZX) := (lB l 0 0).2
    exact p8 _ _ _ _ _ _ h1 f1 (by decide)
   ·obtain ⟨q1, _, _⟩ := aah f3 f1 r h0
    exact p8 _ _ _ _ _ _ q1 f1 (by show _ < 137438953472; omega))
  have hmul := p8 (c9 l most j).l (ZX.of (fE l i) ^ pL l i).l _ _ _ _ m2 p1 (by show _ < 137438953472; omega)
  have hpN : ZX.N (c9 l most j) = (c9 l most j).l.length := rfl
  have hfN : ZX.N (ZX.of (fE l i)) = (fE l i).length := by show (ZX.of (fE l i)).l.length = _; rw [f2]
  have lG : aM (fE l i) = fE l i := f2
  have aoT := NK (x := [-(nth l i % 9 - 4), nth l (i + 1) % 5 + 1]) (by simp) (by simp) (fun c hc => by
   simp only [List.mem_cons, List.not_mem_nil, or_false] at hc
   rcases hc with rfl | rfl <;> omega) (by simp; omega)
  have sI : aM [-(nth l i % 9 - 4), nth l (i + 1) % 5 + 1] = [-(nth l i % 9 - 4), nth l (i + 1) % 5 + 1] := aoT.2.1
  have of1 := xL [-(nth l i % 9 - 4), nth l (i + 1) % 5 + 1] (by simp) (fun c hc => by
   simp only [List.mem_cons, List.not_mem_nil, or_false] at hc
   rcases hc with rfl | rfl <;> omega)
  rw [sI] at of1
  have of2 : (nth l i).tmod 5 = 3 → aL env.P 80 [.sl [[.int .i64 (-(nth l i % 9 - 4))], [.int .i64 (nth l (i + 2) % 3 - 1)], [.int .i64 (nth l (i + 1) % 5 + 1)]]] (PI (fE l i)) := fun h => by
   have hx : fE l i = [-(nth l i % 9 - 4), nth l (i + 2) % 3 - 1, nth l (i + 1) % 5 + 1] := by unfold fE; rw [if_pos h]
   have := xL (fE l i) (by rw [hx]; simp) (fun c hc => by
    rw [hx] at hc
    simp only [List.mem_cons, List.not_mem_nil, or_false] at hc
    rcases hc with rfl | rfl | rfl <;> omega)
   rw [lG] at this
   rw [hx] at this ⊢
   exact this
  have agI : ¬ (nth l i).tmod 5 = 3 → fE l i = [-(nth l i % 9 - 4), nth l (i + 1) % 5 + 1] := fun h => by unfold fE; rw [if_neg h]
  replace of1 : aL env.P 80 [.sl [[.int .i64 (-(nth l i % 9 - 4))], [.int .i64 (nth l (i + 1) % 5 + 1)]]] (PI [-(nth l i % 9 - 4), nth l (i + 1) % 5 + 1]) := of1
  have ayr : (fE l i).length = 2 ∨ (fE l i).length = 3 := by unfold fE; split <;> simp
  have hk3 : (pL l i : Int) = 1 + nth l (i + 2) % 3 := by unfold pL; omega
  have hP6 : pL l i * (ZX.N (ZX.of (fE l i)) - 1) ≤ 6 := by
   have : pL l i * (ZX.N (ZX.of (fE l i)) - 1) ≤ 3 * 2 := Nat.mul_le_mul e2 (by rw [hfN]; omega)
   omega
  have hP : (1 + nth l (i + 2) % 3) * (((fE l i).length : Int) - 1) = ((pL l i * (ZX.N (ZX.of (fE l i)) - 1) : Nat) : Int) := by
   rw [hfN, Int.natCast_mul, hk3]
   congr 1
   omega
  have OB : 0 < (c9 l most j).l.length ∧ (c9 l most j).l.length ≤ most + 1 := ⟨ZX.aG.1 m1, m2.N⟩
  have adY : c9 l most (j + 1) = if most < (c9 l most j).l.length - 1 + pL l i * (ZX.N (ZX.of (fE l i)) - 1) then c9 l most j else c9 l most j * ZX.of (fE l i) ^ pL l i := by rw [hms, tZ, hpN]
  rw [← hk3] at hP
  rw [f2] at aoS
  clear hms p1 p2 p3 m1 m2 f1 f2 f3 aoT sI lG hpN hfN
  generalize pL l i * (ZX.N (ZX.of (fE l i)) - 1) = PP at *
  generalize hK : pL l i = kk at *
  generalize hpm : bI (c9 l most j).l (ZX.of (fE l i) ^ kk).l = pm at *
  have atL : (c9 l most j * ZX.of (fE l i) ^ kk).l = pm := hpm
  generalize ZX.of (fE l i) ^ kk = Fk at *
  generalize hF : fE l i = F at *
  generalize hp0 : c9 l most j = P0 at *
  have ei1 : ((i : Int) + 1).toNat = i + 1 := by omega
  have ei2 : ((i : Int) + 2).toNat = i + 2 := by omega
  refine W.skip ?_
  refine W.eY (fun σ => ∃ (rows : Pm.Rows) (clk : Nat), σ = ⟨fa [(0, aJ aF l), (1, .int .i64 most), (5, PI (c9 l most (j + 1)).l), (6, .int .i64 i)], rows, clk⟩) ?_ ?_
  ·refine W.sd ?_
   simp (disch := omega) [gw, ei1, ei2]
   refine aA w1 ?_
   simp (disch := omega) [gw, ei1, ei2]
   refine aA w2 ?_
   simp (disch := omega) [gw, ei1, ei2]
   refine aA w3 ?_
   simp (disch := omega) [gw]
   refine W.lx [0, 1, 5, 6, 7, 8, 9] ?_; simp
   refine W.sr ?_
   simp (disch := omega) [gw]
   refine aA of1 ?_
   simp (disch := omega) [gw]
   refine W.lx [0, 1, 5, 6, 7, 8, 9, 10] ?_; simp
   refine W.fQ (fun σ => ∃ (rows : Pm.Rows) (clk : Nat), σ = ⟨fa [(0, aJ aF l), (1, .int .i64 most), (5, PI P0.l), (6, .int .i64 i), (9, .int .i64 kk), (10, PI F)], rows, clk⟩) ?_ ?_
   ·refine W.sr ?_; simp (disch := omega) [gw]; refine W.lx [0, 1, 5, 6, 7, 8, 9, 10, 54] ?_; simp
    refine W.cond ⟨_, rfl, fun h => ?_, fun h => ?_⟩
    ·have h : (nth l i).tmod 5 = 3 := by simpa using h
     refine W.b9 (fun K hK => ?_)
     simp (disch := omega) [gw, ei2]
     refine aA w3 ?_
     simp (disch := omega) [gw]
     refine aA (of2 h) ?_
     simp (disch := omega) [gw]
     exact hK _ ⟨_, aC _ [0, 1, 5, 6, 9, 10], _, _, by rw [hk3]; rfl⟩
    ·have h : ¬ (nth l i).tmod 5 = 3 := by simpa using h
     rw [agI h]
     refine W.skip ?_
     exact ⟨_, aC _ [0, 1, 5, 6, 9, 10], _, _, by rw [hk3]; rfl⟩
   rintro _ ⟨rows, clk, rfl⟩
   refine W.seq ?_
   refine W.sr ?_; simp (disch := omega) [gw, hP]; refine W.lx [0, 1, 5, 6, 9, 10, 77] ?_; simp
   refine W.cond ⟨_, rfl, fun h => ?_, fun h => ?_⟩
   ·have h : most < P0.l.length - 1 + PP := by simp at h; omega
    rw [if_pos h] at adY
    rw [adY]
    refine W.exit ?_; simp only [pX, if_true, if_false, reduceIte, Nat.reduceEqDiff]
    exact ⟨_, aC _ [0, 1, 5, 6], _, _, rfl⟩
   ·have h : ¬ most < P0.l.length - 1 + PP := by simp at h; omega
    rw [if_neg h] at adY
    rw [adY, atL]
    refine W.skip ?_
    refine W.b9 (fun K hK => ?_)
    simp (disch := omega) [gw]
    refine aA aoS ?_
    simp (disch := omega) [gw]
    refine aA hmul ?_
    simp (disch := omega) [gw]
    exact hK _ ⟨_, aC _ [0, 1, 5, 6], _, _, rfl⟩
  rintro _ ⟨rows, clk, rfl⟩
  refine W.b9 (fun K hK => ?_); simp (disch := omega) [gw]
  refine hK _ ⟨k - 1, _, aC _ [0, 1, 5, 6], by omega, i + 3, j + 1, _, _, rfl, by omega, by omega⟩
 ·have hjJ : j = J := by omega
  subst hjJ
  refine W.fR (fun σ => ∃ (rows : Pm.Rows) (clk : Nat), σ = ⟨fa [(0, aJ aF l), (5, PI (c9 l most j).l), (21, .bool false)], rows, clk⟩) (fun K hK => ?_) ?_
  ·by_cases a1 : (i : Int) + 2 < (l.length : Int)
   ·have a2 : ¬ (i : Int) < 18 := by omega
    simp (disch := omega) [gw, a1, a2]
    exact hK _ _ (aC _ [0, 5, 21]) ⟨_, _, rfl⟩
   ·simp (disch := omega) [gw, a1]
    exact hK _ _ (aC _ [0, 5, 21]) ⟨_, _, rfl⟩
  rintro _ ⟨rows, clk, rfl⟩
  refine W.cond ⟨_, rfl, fun h => ?_, fun h => ?_⟩
  ·cases h
  clear h
  have of3 := xL [-3] (by decide) (by decide)
  replace of3 : aL env.P 80 [.sl [[.int .i64 (-3)]]] (PI [-3]) := of3
  obtain ⟨m1, m2⟩ := lB l most j
  have hsc := IY (c9 l most j).l (-3) (m2.yy (by show _ ≤ 137438953472; omega) (by omega)) (by show sz 2 (-3) ≤ 137438953472; exact Nat.le_trans (cS (k := 2) (by decide) (by decide)) (by decide))
  have hsl : aV (c9 l most j).l (-3) = (ZX.K (-3) * c9 l most j).l := Cn.ext (Cn.aV _ _) (ZX.K (-3) * c9 l most j).c fun t => by rw [bU, ZX.c7, ZX.rW, Int.mul_comm]
  rw [hsl] at hsc
  refine W.exit ?_; simp only [pX, if_true, if_false, reduceIte, Nat.reduceEqDiff]
  refine W.fQ (fun σ => ∃ (rows : Pm.Rows) (clk : Nat), σ = ⟨fa [(5, PI (if (0 < l.length ∧ (nth l 0).tmod 7 = 6) then ZX.K (-3) * c9 l most j else c9 l most j).l)], rows, clk⟩) ?_ ?_
  ·by_cases wX : 0 < l.length
   ·by_cases h7 : (nth l 0).tmod 7 = 6
    ·rw [if_pos ⟨wX, h7⟩]
     have b7 : ((nth l 0).tmod 7 == 6) = true := by simpa using h7
     refine W.sr ?_
     simp (disch := omega) [gw, wX, b7, h7]
     refine W.lx [5, 92] ?_; simp
     refine W.cond ⟨_, rfl, fun h => ?_, fun h => ?_⟩
     ·refine W.b9 (fun K hK => ?_)
      simp (disch := omega) [gw]
      refine aA of3 ?_
      simp (disch := omega) [gw]
      refine aA hsc ?_
      simp (disch := omega) [gw]
      exact hK _ ⟨_, aC _ [5], _, _, rfl⟩
     ·cases h
    ·rw [if_neg (fun h => h7 h.2)]
     have b7 : ((nth l 0).tmod 7 == 6) = false := by simpa using h7
     refine W.sr ?_
     simp (disch := omega) [gw, wX, b7, h7]
     refine W.lx [5, 92] ?_; simp
     refine W.cond ⟨_, rfl, fun h => ?_, fun h => ?_⟩
     ·cases h
     ·refine W.skip ?_
      exact ⟨_, aC _ [5], _, _, rfl⟩
   ·rw [if_neg (fun h => wX h.1)]
    have hl1 : l.length = 0 := by omega
    refine W.sr ?_
    simp (disch := omega) [gw, hl1]
    refine W.lx [5, 92] ?_; simp
    refine W.cond ⟨_, rfl, fun h => ?_, fun h => ?_⟩
    ·cases h
    ·refine W.skip ?_
     exact ⟨_, aC _ [5], _, _, rfl⟩
  rintro _ ⟨rows, clk, rfl⟩
  refine W.sr ?_; simp (disch := omega) [gw]; refine W.lx [4] ?_; simp
  refine W.ret ?_
  simp [go]
theorem BZ.z {h n : Nat} {a : ZX} (b : BZ h n a) (hh : h < 1099511627776) : ∀ c ∈ a.l, Z c := fun c hc => Nat.lt_of_le_of_lt (b.sz c hc) hh
theorem FL {h n : Nat} {a : ZX} (b : BZ h n a) (hh : h < 1099511627776) (hn : n < 1099511627776) : aL env.P 22 [PI a.l] (Po a.l) := adF a.l (b.z hh) (Nat.lt_of_le_of_lt b.len hn)
theorem aoU {a b : ZX} (ha : a ≠ 0) (hb : Nf b) (h : ∀ p, ZX.oC p → ZX.mu p b = min (ZX.mu p a) 1) : sq a = b := by
 have nA := lV ha
 have e : sq a = sz' (nf a) := by
  unfold sq
  split
  ·rename_i h2
   have h3 : nf a = 1 := nA.N1 (by rw [xA]; exact h2)
   rw [h3]
   show 1 = wz 1 0
   rw [wz]
   show 1 = qz 1 (gd 1)
   rw [ZT, Nf.one.self]
  ·rfl
 rw [e]
 exact Nf.mX (ZY nA) hb fun p hp => by rw [ZZ nA hp, ZP hp ha, h p hp]
theorem aaj {a : ZX} {n : Nat} (hn : a.l.length ≤ n) (hc : ∀ c ∈ a.l, c.natAbs < 8) : BZ 3 n a := ⟨hn, fun c h => cS (by decide) (by have := hc c h; show _ < 8; exact this)⟩
end Go.Proofs.YtbbjgncblhfegaaGreat
namespace Go.Proofs.YtbbjgncblhfegaaGreat
open Go Pm
open ZX hiding N W
theorem QL {a : ZX} (h : 2 ≤ ZX.N a) : nth (bO a).l (ZX.N a - 2) = lead a.l * ((ZX.N a - 1 : Nat) : Int) := by
 have h1 : a.l.length = ZX.N a := rfl
 have h2 : nth (bO a).l (ZX.N a - 2) = nth a.l (ZX.N a - 1) * ((ZX.N a - 1 : Nat) : Int) := by
  show nth (aM (u0 a.l)) _ = _
  rw [gP, u0, cC (by simp; omega)]
  simp only [List.getElem_map, List.getElem_range]
  rw [show ZX.N a - 2 + 1 = ZX.N a - 1 by omega]
 rw [h2, lead, h1]
theorem aak {a : ZX} (h : 2 ≤ ZX.N a) : ZX.N (bO a) = ZX.N a - 1 := by
 have h1 := mW a
 have h2 := QL h
 have hl := cI a.c (show 0 < a.l.length from by have : a.l.length = ZX.N a := rfl; omega)
 have h3 : nth (bO a).l (ZX.N a - 2) ≠ 0 := by rw [h2]; exact Int.mul_ne_zero hl (by omega)
 rcases Nat.lt_or_ge (ZX.N a - 2) (bO a).l.length with h4 | h4
 ·have : ZX.N (bO a) = (bO a).l.length := rfl
  omega
 ·exact absurd (fS h4) h3
theorem aal {a : ZX} (h : 2 ≤ ZX.N a) : lead (bO a).l = lead a.l * ((ZX.N a - 1 : Nat) : Int) := by
 rw [← QL h, lead, show (bO a).l.length = ZX.N (bO a) from rfl, aak h, show ZX.N a - 1 - 1 = ZX.N a - 2 by omega]
theorem T6 {a : ZX} (h : ZX.N a ≤ 1) : bO a = 0 := by
 refine Classical.byContradiction fun h0 => ?_
 have h1 := ZX.aG.1 h0
 have := mW a
 omega
theorem adZ {f : ZX} (hf : Nf f) : pE (bO f).l = (oA (bO f)).l := by
 have h : ¬ lead (bO f).l < 0 := by
  rcases Nat.lt_or_ge (ZX.N f) 2 with h2 | h2
  ·rw [T6 (by omega)]; decide
  ·rw [aal h2]
   have := Int.mul_nonneg (Int.le_of_lt hf.l) (show (0 : Int) ≤ ((ZX.N f - 1 : Nat) : Int) by omega)
   omega
 show _ = iR (bO f).l
 rw [I7, if_neg h]
theorem FM {α : Type} {g : α → List PV} {l : List α} {s n : Nat} {f : ZX} (hS : aL env.P 83 [aJ g l] (Po f.l)) (h : Ch s n f) (hf : Nf f) : aL env.P 82 [aJ g l] (.eN [CH (bE f), .int .i64 0]) := by
 have hn := h.hn
 have hp := h.pot
 have hs := hp.le
 have bd : BZ (s + 5) n (bO f) := h.bz.bO (by omega)
 have d1 := rZ h.bz (by omega) (by omega)
 have d2 := rE ((bO f).l.map qO) (bd.BK (by omega) (by omega)) (s := s + 5) (n := n) (by rw [bQ]; exact JM bd) (by omega) (by omega)
 rw [wN, ← gQ, adZ hf] at d2
 have b2 : BZ (s + 5) n (oA (bO f)) := gR bd
 have b1 : BZ (s + 5) n f := h.bz.mono (by omega) (Nat.le_refl _)
 have KL : ZX.N (oA (bO f)) ≤ ZX.N f := Nat.le_trans (j4 _) (Nat.le_trans (mW f) (by omega))
 have hc : bE f = f :: r6 (ZX.N f) f (oA (bO f)) := rfl
 rw [AH KL (Nat.le_refl _)] at hc
 have hf0 : f.l.length ≠ 0 := by have := ZX.aG.1 hf.ne; exact Nat.pos_iff_ne_zero.1 this
 have hf1 : ¬ f.l = [] := fun h0 => hf0 (by rw [h0]; rfl)
 generalize hC : bE f = C at *
 generalize oA (bO f) = g0 at *
 generalize jR (bO f).l = pc at *
 generalize (bO f).l = dl at *
 refine aB (E := env) (fun _ => 0) [(0, aJ g l)] Tryz.func82 rfl (by kernel_rfl) (by kernel_rfl) (show 1 ≤ 48 by decide) (by simp) ?_
 refine W.sr ?_; simp (disch := omega) [gw]; refine W.lx [0] ?_; simp
 refine W.sr ?_
 simp (disch := omega) [gw]
 refine aA hS ?_
 simp (disch := omega) [gw]
 refine W.lx [4] ?_; simp
 refine W.seq ?_
 refine W.sr ?_; simp (disch := omega) [gw]; refine W.lx [4, 14] ?_; simp
 refine W.cond ⟨_, rfl, fun h => ?_, fun h => ?_⟩
 ·simp at h; exact absurd h hf1
 refine W.skip ?_
 refine W.aje 1 rfl rfl rfl (fun K hK => ?_)
 simp (disch := omega) [gw]
 refine W.lw [4, 5] hK ?_; clear hK K; simp
 refine W.sr ?_
 simp (disch := omega) [gw]
 refine aA d1 ?_
 simp (disch := omega) [gw]
 refine aA d2 ?_
 simp (disch := omega) [gw]
 refine W.lx [4, 5, 7] ?_; simp
 refine W.seq ?_
 refine W.block ?_
 refine W.bB (fun k σ => ∃ (L : List ZX) (x y : ZX) (i ver v18 e18 s : Nat) (rows : Pm.Rows) (clk : Nat), σ = ⟨fa [(4, Po x.l), (5, .ptr 18 v18 0 0), (7, Po y.l)], rows, clk⟩ ∧ rows 16 = some ⟨ver, 31, 1, emap zp L⟩ ∧ rows 18 = some ⟨v18, e18, 1, [[.own 16 ver 0 (i + 1)]]⟩ ∧ L.length = i + 1 ∧
  L ++ r6 k x y = C ∧ k = ZX.N y ∧ BZ s n x ∧ BZ s n y ∧ u4 4500000000 n s x y ∧ i + ZX.N y ≤ 20) (ZX.N g0) ?_ ?_
 ·exact ⟨_, .refl, [f], f, g0, 0, _, _, _, s + 5, _, _, rfl, by simp [emap]; (first | exact rfl | exact ⟨rfl, rfl⟩), by simp; (first | exact rfl | exact ⟨rfl, rfl⟩ | exact ⟨rfl, rfl, rfl⟩), rfl, hc.symm, rfl, b1, b2, hp, by have := b2.N; omega⟩
 rintro k _ ⟨L, x, y, i, ver, v18, e18, s, rows, clk, rfl, FN, ajf, hL, MY, rfl, bx, qE, hp, hiN⟩
 have hs := hp.le
 have hlx := bx.len
 have hly := qE.len
 have hLl : (emap zp L).length = i + 1 := by simp [emap, hL]
 refine W.seq ?_
 refine W.sr ?_; simp (disch := omega) [gw]; refine W.lx [4, 5, 7, 27] ?_; simp
 refine W.cond ⟨_, rfl, fun h => ?_, fun h => ?_⟩
 ·have hy : y ≠ 0 := ZX.aG.2 (by show 0 < y.l.length; simp at h; omega)
  have hR := I5 (x.l.map qO) (y.l.map qO) (bx.BK (by omega) (by omega)) (qE.BK (by omega) (by omega)) (s := s) (s' := s) (N := n) (by rw [bQ]; exact JM bx) (by rw [bQ]; exact JM qE) (by
   have : n * (s + n + 1) ≤ 20 * 4500000000 := Nat.mul_le_mul hn hs
   omega)
  rw [wN, wN, if_neg (u3 hy), ← gQ, ← gQ] at hR
  have br := QD bx qE hy
  have af7 : (ZX.N x + 1 - ZX.N y) * (s + n + 1) ≤ 22 * 4500000000 := Nat.mul_le_mul (by have : ZX.N x = x.l.length := rfl; omega) (by omega)
  have hrz : I3 x.l y.l = (oA (rz x y)).l := by
   obtain ⟨GD, hN, _⟩ := qG (a := x) hy
   obtain ⟨m, q, hm, e⟩ := Z7 y.c (ZX.aG.1 hy) (x.l.length + 1) x.l x.c (by omega)
   rw [← GD] at e
   exact Z8 x.c y.c (ZX.aG.1 hy) (rz x y).c hN hm e
  rw [hrz] at hR
  have hNg := CY (x := (oA (rz x y)).l) (PB.of (JM (gR br)) (by omega) (by omega))
  have e3 : fD (oA (rz x y)).l = (nx x y).l := rfl
  rw [e3] at hNg
  have KL := TW (a := x) hy
  have hp2 := hp.step KL
  have bn := QE bx qE hy
  have hch : L ++ [y] ++ r6 (ZX.N (nx x y)) y (nx x y) = C := by
   rw [← MY]
   obtain ⟨j, hj⟩ : ∃ j, ZX.N y = j + 1 := ⟨ZX.N y - 1, by have := ZX.aG.1 hy; have : ZX.N y = y.l.length := rfl; omega⟩
   rw [hj, r6, if_neg (by omega), AH (k := j) (j := ZX.N (nx x y)) (by omega) (Nat.le_refl _)]
   simp
  generalize (oA (rz x y)).l = pl at *
  generalize hnx : nx x y = nn at *
  refine W.skip ?_
  refine W.block ?_
  refine W.sr ?_
  simp (disch := omega) [gw, FN, ajf, hLl]
  refine W.lx [4, 5, 7] ?_; simp
  refine W.sr ?_
  simp (disch := omega) [gw]
  refine aA hR ?_
  simp (disch := omega) [gw]
  refine W.lx [5, 7, 8] ?_; simp
  refine W.b9 (fun K hK => ?_)
  simp (disch := omega) [gw]
  refine aA hNg ?_
  simp (disch := omega) [gw]
  refine hK _ ⟨ZX.N nn, _, aC _ [4, 5, 7], KL, L ++ [y], y, nn, i + 1, _, v18, e18, _, _, _, rfl, by simp; first | exact rfl | skip, by simp; first | exact rfl | skip, by simp [hL], hch, rfl, qE.mono (by omega) (Nat.le_refl _), bn, hp2, by omega⟩
 ·have hy : y = 0 := by
   refine Classical.byContradiction fun h0 => ?_
   have h1 := ZX.aG.1 h0
   have h2 : ZX.N y = y.l.length := rfl
   simp at h; rw [h2, h] at h1; simp at h1
  subst hy
  rw [i6, List.append_nil] at MY
  subst MY
  have AZ : List.take (i + 1) L = L := List.take_of_length_le (by omega)
  refine W.exit ?_; simp only [pX, if_true, if_false, reduceIte, Nat.reduceEqDiff]
  refine W.EI 16 (by rw [FN]; simp) (fun K hK => ?_)
  simp [FN]
  refine hK _ ?_
  have aoW : y3 rows 16 18 = some ⟨v18, e18, 1, [[aJ zp L]]⟩ := by
   simp [ajf, FN, hLl, AZ]
  clear FN ajf
  generalize y3 rows 16 = tE at *
  refine W.sr ?_; simp (disch := omega) [gw]; refine W.lx [2, 3] ?_; simp
  refine W.ret ?_
  simp [go, aoW]
theorem aam {n : Nat} (hn : n ≤ 20) : ∀ (j s : Nat) (x g : ZX), BZ s n x → BZ s n g → u4 4500000000 n s x g → ∀ p ∈ r6 j x g, BZ 4500000000 n p
 | 0, _, _, _, _, _, _, p, hp => by cases hp
 | j + 1, s, x, g, bx, bg, hP, p, hp => by
  have hs := hP.le
  rw [r6] at hp
  split at hp
  ·cases hp
  ·rename_i h0
   have h0' : g ≠ 0 := ZX.aG.2 (Nat.pos_of_ne_zero h0)
   rcases List.mem_cons.1 hp with rfl | hp
   ·exact bg.mono (by omega) (Nat.le_refl _)
   ·exact aam hn j _ g (nx x g) (bg.mono (by omega) (Nat.le_refl _)) (QE bx bg h0') (hP.step (TW h0')) p hp
theorem QM : ∀ (j : Nat) (x g : ZX), (r6 j x g).length ≤ j
 | 0, _, _ => Nat.le_refl _
 | j + 1, x, g => by
  rw [r6]
  split
  ·simp
  ·simp only [List.length_cons]; have := QM j g (nx x g); omega
theorem Ch.all {s n : Nat} {f : ZX} (h : Ch s n f) : (∀ p ∈ bE f, BZ 4500000000 n p) ∧ (bE f).length ≤ 21 := by
 have hp := h.pot
 have hs := hp.le
 have hn := h.hn
 refine ⟨fun p hq => ?_, ?_⟩
 ·rcases List.mem_cons.1 hq with rfl | hq
  ·exact h.bz.mono (by omega) (Nat.le_refl _)
  ·exact aam hn _ _ _ _ (h.bz.mono (by omega) (Nat.le_refl _)) (gR (h.bz.bO (by omega))) hp p hq
 ·have := QM (ZX.N f) f (oA (bO f))
  have h2 := h.bz.N
  show (f :: r6 (ZX.N f) f (oA (bO f))).length ≤ 21
  simp only [List.length_cons]; omega
theorem QN {a u v : ZX} {c : Int} (na : Nf a) (hc : c ≠ 0) (h : u * a + v * bO a = K c) : sq a = a := aoU na.ne na fun p hp => by
 have hm : mu p a ≤ 1 := by
  rcases Nat.lt_or_ge (mu p a) 2 with h1 | h1
  ·omega
  ·exfalso
   obtain ⟨m, hmm⟩ : ∃ m, mu p a = m + 1 := ⟨mu p a - 1, by omega⟩
   obtain ⟨_, h2⟩ := z7 hp na.ne hmm
   have d1 : dv p a := by have := (pJ hp na.ne).1 (show 1 ≤ mu p a by omega); rwa [show p ^ 1 = p by rw [pow_succ', gC]; grind] at this
   have hd : bO a ≠ 0 := fun h0 => by rw [h0] at h2; have : mu p (0 : ZX) = m := h2; have h9 := (z7 hp na.ne hmm).1; exact h9 h0
   have d2 : dv p (bO a) := by have := (pJ hp hd).1 (show 1 ≤ mu p (bO a) by omega); rwa [show p ^ 1 = p by rw [pow_succ', gC]; grind] at this
   have d3 : dv p (K c) := by rw [← h]; exact (d1.mul_left u).add (d2.mul_left v)
   have h3 := d3.pI (rY hc)
   have h4 := hp.deg
   rw [N_K hc] at h3
   omega
 omega
theorem fX (q : Rat) : cX q.num q.den = q := by
 rw [cX, if_neg (by have := q.den_nz; omega)]
 exact Rat.num_divInt_den q
structure SQ (u : Nat) (q : Rat) : Prop where
 n2 : sz 2 q.num ≤ u
 d2 : sz 2 (q.den : Int) ≤ u
 hu : 1 ≤ u
theorem SQ.nL {u : Nat} {q : Rat} (h : SQ u q) : sz LL q.num ≤ u := Nat.le_trans (AB _) h.n2
theorem SQ.dL {u : Nat} {q : Rat} (h : SQ u q) : sz LL (q.den : Int) ≤ u := Nat.le_trans (AB _) h.d2
section
variable {c : List ZX} {n u : Nat} {q : Rat} (hb : ∀ p ∈ c, BZ 4500000000 n p) (hn : n ≤ 20) (hl : c.length ≤ 21) (hq : SQ u q) (hu : u ≤ 1000000000)
include hb hn hl hq hu
theorem aan : aL env.P 129 [aJ zq c, R2 q.num q.den] (.int .i64 (vr (lC c q.num q.den))) := JS (by omega) fun p hp => by
 have hmul : n * (u + 1) ≤ 20 * (u + 1) := Nat.mul_le_mul_right _ hn
 exact u5 (hb p hp) hq.n2 hq.d2 hq.hu (by omega) (by show _ < 137438953472; omega)
theorem aao : aL env.P 183 [CH c, T2 q.num q.den] (.int .i64 (vr (lC c q.num q.den))) := NG (by omega) fun p hp => by
 have hmul : n * (u + 1) ≤ 20 * (u + 1) := Nat.mul_le_mul_right _ hn
 exact DH (JM (hb p hp)) p.c hq.nL hq.dL hq.hu (by omega) (by omega) (by omega) (fX q) ⟨hq.nL, hq.dL⟩
end
theorem pbs {c : List ZX} {n : Nat} (hb : ∀ p ∈ c, BZ 4500000000 n p) (hn : n ≤ 20) : ∀ p ∈ c, PB p.l := fun p hp => (hb p hp).pb (by decide) (by omega)
def a8 : ZX := ZX.of [-2, 0, 1]
theorem aoX : sq a8 = a8 := by
 have nA : Nf a8 := ⟨ZX.aG.2 (by decide), by decide, by decide⟩
 refine QN (u := K (-2)) (v := ZX.of [0, 1]) (c := 4) nA (by decide) (ZX.ext fun t => ?_)
 have hd : bO a8 = ZX.of [0, 2] := rfl
 rw [hd, ZX.j5, ZX.c7, ZX.c7, ZX.rW, ZX.rW, a8, ZX.M0, ZX.M0, ZX.M0]
 simp only [V]; grind
theorem aap : vr (QI (bE a8)) = 2 ∧ vr (QJ (bE a8)) = 0 ∧ vr (lC (bE a8) 0 1) = 1 ∧ vr (lC (bE a8) 2 1) = 0 := ⟨by kernel_rfl, by kernel_rfl, by kernel_rfl, by kernel_rfl⟩
structure MK (a : ZX) (c : List ZX) : Prop where
 to : aL env.P 22 [PI a.l] (Po a.l)
 new : aL env.P 82 [Po a.l] (.eN [CH c, .int .i64 0])
 chain : aL env.P 57 [PI a.l] (aJ zq c)
 bd : ∀ p ∈ c, BZ 4500000000 20 p
 len : c.length ≤ 21
theorem MK.of {s n : Nat} {a : ZX} (h : uL s n a) (h0 : a ≠ 0) (AG : 1 ≤ n) (h1 : 1 ≤ s) : MK a (bE (sq a)) := by
 have hC := h.ch h0 AG
 obtain ⟨hb, hl⟩ := hC.all
 have hqb := h.wO
 have hs : s < 1099511627776 := by unfold qb at hqb; omega
 have hn := h.hn
 exact ⟨FL h.bz hs (by omega), FM (k7 h) hC (QK h0).1, NI h h0 AG h1, fun p hp => (hb p hp).mono (Nat.le_refl _) hn, hl⟩
theorem l6 (a b : Nat) : (2 : Rat) ^ (a + b) = 2 ^ a * 2 ^ b := by
 induction b with
 | zero => simp
 | succ b ih => rw [← Nat.add_assoc, Rat.pow_succ, Rat.pow_succ, ih]; grind
theorem two_pow_pos (a : Nat) : (0 : Rat) < 2 ^ a := Rat.pow_pos (by decide)
theorem l7 : ∀ a : Nat, (1 : Rat) ≤ 2 ^ a
 | 0 => by simp
 | a + 1 => by
  have := l7 a
  rw [Rat.pow_succ]; grind
theorem jU {a b : Nat} (h : a ≤ b) : (2 : Rat) ^ a ≤ 2 ^ b := by
 obtain ⟨c, rfl⟩ := Nat.exists_eq_add_of_le h
 rw [l6]
 have h1 := l7 c
 have h2 := Rat.mul_le_mul_of_nonneg_left h1 (Rat.le_of_lt (two_pow_pos a))
 grind
theorem JW {c : Int} {s : Nat} (h : c.natAbs < 2 ^ s) : Ab (c : Rat) (2 ^ s) := by
 have h1 : ((2 ^ s : Int) : Rat) = 2 ^ s := by rw [Rat.intCast_pow]; rfl
 have h2 : (2 ^ s : Int) = ((2 ^ s : Nat) : Int) := by rw [Int.natCast_pow]; rfl
 constructor
 ·rw [← h1, ← Rat.intCast_neg]
  exact Rat.intCast_le_intCast.2 (by omega)
 ·rw [← h1]
  exact Rat.intCast_le_intCast.2 (by omega)
theorem agc {c : Int} {s : Nat} (h : sz 2 c ≤ s) : Ab (c : Rat) (2 ^ s) :=
 JW (Nat.lt_of_lt_of_le (kR (b := 2) (by decide) c) (Nat.pow_le_pow_right (by decide) h))
theorem BZ.ab {s n : Nat} {a : ZX} (h : BZ s n a) : ∀ c ∈ a.l, Ab (c : Rat) (2 ^ s) := fun c hc => agc (h.sz c hc)
theorem FO (s β : Nat) : ∀ k, BM (2 ^ s) (2 ^ β) k = 2 ^ (s + k * (β + 2))
 | 0 => by simp [BM]
 | k + 1 => by
  rw [BM, FO s β k, show s + (k + 1) * (β + 2) = s + k * (β + 2) + β + 1 + 1 by rw [Nat.add_mul]; omega, Rat.pow_succ, Rat.pow_succ, l6 _ β]
  grind
theorem BZ.atP {s n β : Nat} {a : ZX} (h : BZ s n a) {t : Rat} (ht : Ab t (2 ^ β)) : Ab (e t a) (2 ^ (s + n * (β + 2))) := by
 have h1 := QG (S := 2 ^ s) (B := 2 ^ β) (Rat.le_of_lt (two_pow_pos s)) (l7 β) ht a.l h.ab
 rw [FO] at h1
 exact h1.mono (jU (by have := Nat.mul_le_mul_right (β + 2) h.len; omega))
theorem QO {s' N : Nat} {y : List Int} (qE : Bd 2 s' N y) (cy : Cn y) (hy : 0 < y.length) : ∀ (n j s : Nat) (x : List Int), Cn x → x.length < n → Bd 2 s N x → x.length + 1 ≤ y.length + j →
  ∃ (m : Int) (q : List Int), 0 < m ∧ sz 2 m ≤ j * s' + 1 ∧ Bd 2 (s + j * (2 * s' + N + 2)) N q ∧ ∀ t, m * V t x = V t q * V t y + V t (rq y n x)
 | 0, j, s, x, _, h, _, _ => by omega
 | n + 1, j, s, x, cx, h, bx, hj => by
  rw [rq]
  split
  ·exact ⟨1, [], by decide, Nat.le_trans (cS (k := 1) (by decide) (by decide)) (by omega), ⟨by simp, fun c hc => by cases hc⟩, fun t => by simp [V]⟩
  ·rename_i h1
   obtain ⟨j, rfl⟩ : ∃ i, j = i + 1 := ⟨j - 1, by omega⟩
   have hl := qF hy (show y.length ≤ x.length by omega)
   have hb := M6 qE bx hy (show y.length ≤ x.length by omega)
   obtain ⟨m, q, hm, hms, hq, h4⟩ := QO qE cy hy n j _ (P8 y x) (Cn.dZ _ _) (by omega) hb (by omega)
   have wX := cI cy hy
   have e1 : (j + 1) * s' = j * s' + s' := by rw [Nat.add_mul]; omega
   have e2 : (j + 1) * (2 * s' + N + 2) = j * (2 * s' + N + 2) + (2 * s' + N + 2) := by rw [Nat.add_mul]; omega
   have e3 : j * s' ≤ j * (2 * s' + N + 2) := Nat.mul_le_mul_left _ (by omega)
   have sx : sz 2 (uM (lead y) * lead x) ≤ s := by
    refine Nat.le_trans (cU (b := 2) (by decide) ?_) (fA bx)
    rw [Int.natAbs_mul]
    have : (uM (lead y)).natAbs = 1 := by unfold uM; split <;> rfl
    rw [this, Nat.one_mul]; exact Nat.le_refl _
   have lE := (Bd.aV (b := 2) (by decide) (Bd.oB (b := 2) sx (x.length - y.length)) hms)
   have hlen := bx.len
   refine ⟨m * (lead y).natAbs, fU q (aV (oB (x.length - y.length) (uM (lead y) * lead x)) m), Int.mul_pos hm (by omega), ?_, ?_, fun t => ?_⟩
   ·have h8 : sz 2 ((lead y).natAbs : Int) ≤ s' := Nat.le_trans (cU (b := 2) (by decide) (by simp)) (fA qE)
    have := bS (b := 2) (by decide) hms h8
    omega
   ·refine (Bd.fU (b := 2) (s := s + (j + 1) * (2 * s' + N + 2) - 1) (by decide) (hq.mono (by omega) (Nat.le_refl _)) (lE.mono (by omega) (by omega))).mono (by omega) (Nat.le_refl _)
   ·have h5 := Z4 t y x
    have h6 := h4 t
    rw [o0, bU, lS]
    have : m * ((lead y).natAbs : Int) * V t x = m * (((lead y).natAbs : Int) * V t x) := by grind
    rw [this, h5]
    grind
theorem ajg {s n : Nat} {a b : ZX} (ha : BZ s n a) (hb : BZ s n b) (h0 : b ≠ 0) : ∃ (m : Int) (q : ZX), 0 < m ∧ sz 2 m ≤ (n + 1) * s + 1 ∧ BZ (s + (n + 1) * (2 * s + n + 2)) n q ∧ ((nx a b = 0 ∧ K m * a = q * b) ∨ (nx a b ≠ 0 ∧ ∃ k : Int, 0 < k ∧ K m * a = q * b - K k * nx a b)) := by
 obtain ⟨GD, hN, _⟩ := qG (a := a) h0
 obtain ⟨m, q, hm, hms, hq, e⟩ := QO hb b.c (ZX.aG.1 h0) (a.l.length + 1) (n + 1) s a.l a.c (by omega) ha (by have := ha.len; have := ZX.aG.1 h0; show a.l.length + 1 ≤ b.l.length + (n + 1); omega)
 rw [← GD] at e
 have e1 : K m * a = ZX.of q * b + rz a b := ZX.ext fun t => by rw [c7, rW, j5, c7, M0]; exact e t
 refine ⟨m, ZX.of q, hm, hms, Bd.cut hq, ?_⟩
 by_cases hr : rz a b = 0
 ·left
  refine ⟨?_, by rw [e1, hr]; grind⟩
  exact ZX.ext fun t => by
   show V t (fD (iR (rz a b).l)) = _
   rw [hr]; rfl
 ·right
  have hrn : (rz a b).l ≠ [] := u3 hr
  have hp := AD (rz a b).c hrn
  have hg := bV (rz a b).c hrn
  have hnx : K (bH (rz a b).l : Int) * nx a b = -(rz a b) := ZX.ext fun t => by
   rw [c7, rW, C2]
   show _ * V t (fD (iR (rz a b).l)) = _
   rw [y5]
   have h2 : V t (rz a b).l = V t (iR (rz a b).l) * (bH (rz a b).l : Int) := by rw [← dA, hp]
   rw [h2]; grind
  refine ⟨fun h => hr ?_, _, Int.natCast_pos.2 (Nat.pos_of_ne_zero hg), by rw [hnx, e1]; grind⟩
  rw [h] at hnx
  have : (rz a b) = -(K (bH (rz a b).l : Int) * 0) := by rw [hnx]; grind
  rw [this]; grind
theorem JX {a b : ZX} (hb : b ≠ 0) (hg : gz a b = 1) (hd : dv b a) : ∃ c : Int, c ≠ 0 ∧ b = K c := by
 have h1 := (dV a b).least hd (dv.refl b)
 rw [hg] at h1
 have h2 := h1.pI pH
 rw [ZX.wJ] at h2
 have := ZX.aG.1 hb
 exact ZX.mV (by omega)
def GK (C n β : Nat) : Nat := C + (n + 1) * (2 * C + n + 2) + n * (β + 2) + 2
theorem QP {C n β : Nat} (hn : n ≤ 20) : ∀ (k s : Nat) (a b : ZX), ZX.N b ≤ k → b ≠ 0 → BZ s n a → BZ s n b → u4 C n s a b → gz a b = 1 → StC (2 ^ GK C n β) (2 ^ β) (a :: r6 k a b) ∧ ∀ p ∈ r6 k a b, BZ C n p
 | 0, s, a, b, hk, h0, _, _, _, _ => absurd hk (by have := ZX.aG.1 h0; omega)
 | k + 1, s, a, b, hk, h0, ha, hb, hp, hg => by
  have hs := hp.le
  have hNb := ZX.aG.1 h0
  obtain ⟨m, q, hm, hms, hq, hr⟩ := ajg ha hb h0
  rw [r6, if_neg (by omega)]
  have hbC : BZ C n b := hb.mono (by omega) (Nat.le_refl _)
  rcases hr with ⟨hz, e1⟩ | ⟨hz, kk, hkk, e1⟩
  ·rw [hz, i6]
   exact ⟨JX h0 hg ⟨m, by omega, q, e1⟩, fun p hp => by
    simp only [List.mem_cons, List.not_mem_nil, or_false] at hp
    subst hp; exact hbC⟩
  ·have hN := TW (a := a) h0
   have oP : gz b (nx a b) = 1 := by
    rw [← hg]
    exact (E7 (c := m) (k := -kk) (q := q) (by omega) (by omega) (by rw [e1, show K (-kk) = -K kk from ZX.ext fun t => by rw [rW, C2, rW]]; grind)).symm
   obtain ⟨ih, ih2⟩ := QP hn k _ b (nx a b) (by omega) hz (hb.mono (Nat.le_add_right _ _) (Nat.le_refl _)) (QE ha hb h0) (hp.step hN) oP
   refine ⟨?_, fun p hp => ?_⟩
   ·obtain ⟨k2, rfl⟩ : ∃ k2, k = k2 + 1 := ⟨k - 1, by have := ZX.aG.1 hz; omega⟩
    rw [r6, if_neg (by have := ZX.aG.1 hz; omega)] at ih ⊢
    have c1 : (n + 1) * s ≤ (n + 1) * (2 * C + n + 2) := Nat.mul_le_mul_left _ (by omega)
    have c2 : (n + 1) * (2 * s + n + 2) ≤ (n + 1) * (2 * C + n + 2) := Nat.mul_le_mul_left _ (by omega)
    refine ⟨ih, m, kk, q, hm, hkk, e1, ?_, fun t ht => ?_⟩
    ·have h1 := (agc hms).2
     have h2 := jU (show (n + 1) * s + 1 + 1 ≤ GK C n β by unfold GK; omega)
     rw [Rat.pow_succ] at h2
     grind
    ·have h1 := (BZ.atP hq ht)
     have h2 := (Ab.mul (x := 2) (M := 2) ⟨by decide, by decide⟩ h1)
     refine h2.mono ?_
     have h3 := jU (show s + (n + 1) * (2 * s + n + 2) + n * (β + 2) + 1 ≤ GK C n β by unfold GK; omega)
     rw [Rat.pow_succ] at h3
     grind
   ·rcases List.mem_cons.1 hp with rfl | hp
    ·exact hbC
    ·exact ih2 p hp
theorem JY : ∀ (k : Nat) (a b : ZX), (r6 k a b).length ≤ ZX.N b
 | 0, a, b => by simp [r6]
 | k + 1, a, b => by
  rw [r6]
  split
  ·simp
  ·rename_i h0
   have := TW (a := a) (ZX.aG.2 (Nat.pos_of_ne_zero h0))
   have := JY k b (nx a b)
   simp only [List.length_cons]; omega
theorem aoY {a : ZX} (ha : a ≠ 0) : ∃ c : Int, 0 < c ∧ a = K c * oA a := by
 have hp := AD a.c (u3 ha)
 refine ⟨(bH a.l : Int), Int.natCast_pos.2 (Nat.pos_of_ne_zero (bV a.c (u3 ha))), ZX.ext fun t => ?_⟩
 rw [c7, rW]
 show _ = _ * V t (iR a.l)
 have h2 : V t a.l = V t (iR a.l) * (bH a.l : Int) := by rw [← dA, hp]
 rw [h2]; grind
theorem ad1 {C s n β : Nat} {f : ZX} (hn : n ≤ 20) (hf : f ≠ 0) (hb : BZ (s + 5) n f) (hp : u4 C n (s + 5) f (oA (bO f))) (bd : BZ (s + 5) n (oA (bO f))) (hg : gz f (bO f) = 1) : StC (2 ^ GK C n β) (2 ^ β) (bE f) ∧ (∀ p ∈ bE f, BZ C n p) ∧ (bE f).length ≤ n + 1 ∧ ∀ g k, r6 (ZX.N f) f (oA (bO f)) = g :: k → ∃ c : Int, 0 < c ∧ bO f = K c * g := by
 have hs := hp.le
 have hfC : BZ C n f := hb.mono (by omega) (Nat.le_refl _)
 have hNf := hb.N
 have h1 := mW f
 have h2 : ZX.N (oA (bO f)) ≤ ZX.N (bO f) := j4 _
 by_cases h0 : bO f = 0
 ·have wD : oA (bO f) = 0 := by rw [h0]; exact ZX.ext fun t => rfl
  have hc : bE f = [f] := by unfold bE; rw [wD, i6]
  rw [hc]
  have hN1 : ZX.N f ≤ 1 := Classical.byContradiction fun h => E5 (a := f) (by omega) h0
  refine ⟨ZX.mV (by have := ZX.aG.1 hf; omega), fun p hp => by
   simp only [List.mem_cons, List.not_mem_nil, or_false] at hp
   subst hp; exact hfC, by simp, fun g k h => ?_⟩
  rw [wD, i6] at h; cases h
 ·obtain ⟨c, hc, e⟩ := aoY h0
  have wD : oA (bO f) ≠ 0 := fun h => h0 (by rw [e, h]; grind)
  have oP : gz f (oA (bO f)) = 1 := by
   rw [← hg]
   refine z9 (dv.refl f) (dv.refl f) ⟨1, by decide, K c, by rw [e]; show (1 : ZX) * _ = _; grind⟩ ⟨c, by omega, 1, by grind⟩
  obtain ⟨g1, g2⟩ := QP (β := β) hn (ZX.N f) (s + 5) f (oA (bO f)) (by omega) wD hb bd hp oP
  refine ⟨g1, fun p hp => ?_, ?_, fun g k h => ?_⟩
  ·rcases List.mem_cons.1 hp with rfl | hp
   ·exact hfC
   ·exact g2 p hp
  ·have := JY (ZX.N f) f (oA (bO f))
   show (f :: r6 (ZX.N f) f (oA (bO f))).length ≤ _
   simp only [List.length_cons]
   omega
  ·obtain ⟨j, hj⟩ : ∃ j, ZX.N f = j + 1 := ⟨ZX.N f - 1, by have := ZX.aG.1 hf; omega⟩
   rw [hj, r6, if_neg (by have := ZX.aG.1 wD; omega)] at h
   cases h
   exact ⟨c, hc, e⟩
theorem QQ (μ : Nat) : ∀ k, (2 : Rat) ^ (μ * k) * xB (2 ^ μ) k = 1
 | 0 => by simp [xB]
 | k + 1 => by
  have h1 := QQ μ k
  have h2 : xB (2 ^ μ) (k + 1) = xB (2 ^ μ) k / 2 ^ μ := rfl
  have h3 : xB ((2 : Rat) ^ μ) k / 2 ^ μ * 2 ^ μ = xB (2 ^ μ) k := Rat.div_mul_cancel (Rat.ne_of_gt (two_pow_pos μ))
  rw [h2, Nat.mul_add, Nat.mul_one, l6]
  grind
def jb (C n β : Nat) : Nat := (n + 1) * GK C n β + C + n * (β + 2) + 1
theorem QR {C s n β : Nat} {f : ZX} (hn : n ≤ 20) (hf : f ≠ 0) (hb : BZ (s + 5) n f) (hp : u4 C n (s + 5) f (oA (bO f))) (bd : BZ (s + 5) n (oA (bO f))) (hg : gz f (bO f) = 1) {δ : Rat} (hδ : δ * 2 ^ jb C n β ≤ 1) : Lcl (bE f) f (2 ^ β) δ := by
 obtain ⟨h1, h2, h3, h4⟩ := ad1 (β := β) hn hf hb hp bd hg
 have hM : (2 : Rat) ≤ 2 ^ GK C n β := by
  have := jU (show 1 ≤ GK C n β by unfold GK; omega)
  rw [Rat.pow_one] at this
  exact this
 refine StC.loc (Q := 2 ^ (C + n * (β + 2))) hM (l7 β) (Rat.le_of_lt (two_pow_pos C)) h1 (fun p hp => ⟨(h2 p hp).ab, ?_⟩) h4 ?_
 ·rw [FO]
  exact jU (by have := Nat.mul_le_mul_right (β + 2) (h2 p hp).len; omega)
 ·have e1 := QQ (GK C n β) (bE f).length
  have hε := tY hM (bE f).length
  have h5 : GK C n β * (bE f).length + (C + n * (β + 2)) + 1 ≤ jb C n β := by
   have := Nat.mul_le_mul_left (GK C n β) h3
   rw [Nat.mul_comm (GK C n β) (n + 1)] at this
   unfold jb; omega
  have h6 := jU h5
  rw [Rat.pow_succ, l6] at h6
  have hA := two_pow_pos (GK C n β * (bE f).length)
  have hB := two_pow_pos (C + n * (β + 2))
  show δ * 2 ^ (C + n * (β + 2)) < xB (2 ^ GK C n β) (bE f).length
  generalize (2 : Rat) ^ (GK C n β * (bE f).length) = A at *
  generalize (2 : Rat) ^ (C + n * (β + 2)) = Q at *
  generalize xB ((2 : Rat) ^ GK C n β) (bE f).length = ε at *
  generalize (2 : Rat) ^ jb C n β = J at *
  by_cases h0 : 0 < δ
  ·have h7 := Rat.mul_le_mul_of_nonneg_left h6 (Rat.le_of_lt h0)
   have h8 : δ * Q * A ≤ 1 / 2 := by grind
   refine Rat.lt_of_mul_lt_mul_right (c := A) ?_ (Rat.le_of_lt hA)
   grind
  ·have h7 := Rat.mul_le_mul_of_nonneg_right (show δ ≤ 0 by grind) (Rat.le_of_lt hB)
   grind
theorem FP : ∀ (l : List Int) (n : Nat) (p : Int), (l.foldl sB (n, p)).1 = n + BN p l
 | [], n, p => rfl
 | s :: l, n, p => by
  have h : sB (n, p) s = if s = 0 then (n, p) else (if p ≠ 0 ∧ s ≠ p then n + 1 else n, s) := rfl
  rw [List.foldl_cons, h]
  simp only [BN]
  split
  ·exact FP l n p
  ·split <;> rw [FP l] <;> omega
theorem NL (l : List Int) : vr l = BN 0 l := by
 rw [vr, FP]; omega
theorem agd {n d : Int} {q : Rat} (h : (n : Rat) = q * d) : ∀ x : List Int, ((hm n d x).1 : Rat) * d = qv q x * (d : Rat) ^ x.length ∧ ((hm n d x).2 : Rat) = (d : Rat) ^ x.length
 | [] => by
  refine ⟨?_, ?_⟩
  ·show ((0 : Int) : Rat) * d = 0 * _
   rw [Rat.intCast_zero, Rat.zero_mul, Rat.zero_mul]
  ·show ((1 : Int) : Rat) = (d : Rat) ^ 0
   rw [Rat.intCast_one, Rat.pow_zero]
 | a :: l => by
  obtain ⟨h1, h2⟩ := agd h l
  have e : hm n d (a :: l) = ((hm n d l).1 * n + a * (hm n d l).2, (hm n d l).2 * d) := rfl
  rw [e]
  simp only [qv, List.length_cons, Rat.pow_succ, Rat.intCast_add, Rat.intCast_mul]
  rw [h, h2]
  refine ⟨?_, rfl⟩
  have : (((hm n d l).1 : Rat) * (q * d) + a * (d : Rat) ^ l.length) * d = ((hm n d l).1 : Rat) * d * (q * d) + a * ((d : Rat) ^ l.length * d) := by grind
  rw [this, h1]; grind
theorem T7 (v : Int) : v.sign = b6 (v : Rat) := by
 rcases Int.lt_trichotomy v 0 with h | h | h
 ·rw [Int.sign_eq_neg_one_of_neg h, fK (Rat.intCast_neg_iff.2 h)]
 ·subst h; decide
 ·rw [Int.sign_eq_one_of_pos h, dY (Rat.intCast_pos.2 h)]
theorem xU (p : ZX) (q : Rat) : FC p.l q.num q.den = b6 (e q p) := by
 have hd : (0 : Rat) < ((q.den : Int) : Rat) := Rat.intCast_pos.2 (by have := q.den_pos; omega)
 have hq : ((q.num : Int) : Rat) = q * ((q.den : Int) : Rat) := by
  have h1 : q = (q.num : Rat) / ((q.den : Int) : Rat) := by
   rw [← Rat.divInt_eq_div, Rat.num_divInt_den]
  have h2 := Rat.div_mul_cancel (a := (q.num : Rat)) (Rat.ne_of_gt hd)
  rw [← h1] at h2
  exact h2.symm
 have h1 := (agd hq p.l).1
 show (hm q.num q.den p.l).1.sign = b6 (qv q p.l)
 rw [T7]
 have h2 : b6 (((hm q.num q.den p.l).1 : Rat) * ((q.den : Int) : Rat)) = b6 (qv q p.l * ((q.den : Int) : Rat) ^ p.l.length) := by rw [h1]
 rw [qH, qH, dY hd, dY (Rat.pow_pos hd)] at h2
 omega
theorem AM (c : List ZX) (q : Rat) : vr (lC c q.num q.den) = vt c q := by
 rw [NL]
 unfold vt lC BO
 congr 1
 exact List.map_congr_left fun p _ => xU p q
theorem ajh (c : List ZX) : ∃ S : Rat, 0 ≤ S ∧ ∀ p ∈ c, ∀ x ∈ p.l, Ab (x : Rat) S := by
 induction c with
 | nil => exact ⟨0, Rat.le_refl, fun p hp => by cases hp⟩
 | cons a c ih =>
  obtain ⟨S, hS, h⟩ := ih
  obtain ⟨A, hA, ha⟩ := FH a.l
  refine ⟨S + A, by grind, fun p hp x hx => ?_⟩
  rcases List.mem_cons.1 hp with rfl | hp
  ·exact (ha x hx).mono (by grind)
  ·exact (h p hp x hx).mono (by grind)
theorem aaq (c : List ZX) : ∃ X : Rat, 1 ≤ X ∧ (∀ t, X ≤ t → vt c t = vr (QJ c)) ∧ ∀ t, t ≤ -X → vt c t = vr (QI c) := by
 obtain ⟨S, hS, h⟩ := ajh c
 refine ⟨S + 1, by grind, fun t ht => ?_, fun t ht => ?_⟩
 ·rw [NL]
  unfold vt QJ BO
  congr 1
  exact List.map_congr_left fun p hp => (DC hS p.c (h p hp)).1 ht
 ·rw [NL]
  unfold vt QI BO
  congr 1
  exact List.map_congr_left fun p hp => (DC hS p.c (h p hp)).2 ht
theorem FQ {a : ZX} (ha : a ≠ 0) : Nf (sq a) ∧ ∀ p, ZX.oC p → ZX.mu p (sq a) = min (ZX.mu p a) 1 := by
 have hA := lV ha
 unfold sq
 split
 ·rename_i h
  refine ⟨hA, fun p hp => ?_⟩
  obtain ⟨c, hc, rfl⟩ := ZX.mV (x := a) (by have := ZX.aG.1 ha; omega)
  rw [ZP hp ha, ZX.ZI hp hc]; rfl
 ·exact ⟨ZY hA, fun p hp => by rw [ZZ hA hp, ZP hp ha]⟩
theorem age {a : ZX} (ha : a ≠ 0) : gz (sq a) (bO (sq a)) = 1 := by
 obtain ⟨h1, h2⟩ := FQ ha
 refine Nf.mX (P5 h1.ne) Nf.one fun p hp => ?_
 have e1 : mu p (1 : ZX) = 0 := ZI hp (by decide)
 have h3 := af2 h1.ne hp
 rw [h2 p hp] at h3
 rw [e1]
 show mu p (gd (sq a)) = 0
 rw [h3]
 omega
theorem Lcl.mono {L : List ZX} {f : ZX} {B C δ : Rat} (h : Lcl L f B δ) (hc : C ≤ B) : Lcl L f C δ :=
 ⟨fun s t hs ht => h.turns s t (hs.mono hc) (ht.mono hc), fun s t hs ht => h.simple s t (hs.mono hc) (ht.mono hc)⟩
theorem NM (B : Rat) : ∃ β : Nat, B ≤ 2 ^ β := by
 have h1 := Rat.lt_floor_add_one B
 refine ⟨(B.floor + 1).toNat, Rat.le_trans (Rat.le_of_lt h1) ?_⟩
 have h2 : ((2 ^ (B.floor + 1).toNat : Int) : Rat) = 2 ^ (B.floor + 1).toNat := by rw [Rat.intCast_pow]; rfl
 rw [← h2]
 refine Rat.intCast_le_intCast.2 ?_
 have h3 : (B.floor + 1).toNat < 2 ^ (B.floor + 1).toNat := Nat.lt_two_pow_self
 have h4 : ((2 ^ (B.floor + 1).toNat : Nat) : Int) = 2 ^ (B.floor + 1).toNat := by rw [Int.natCast_pow]; rfl
 omega
theorem Ch.T8 {s n : Nat} {f : ZX} (h : Ch s n f) (hf : f ≠ 0) (hg : gz f (bO f) = 1) : xC (bE f) f := ⟨fun B hB => by
 have hn := h.hn
 obtain ⟨β, hβ⟩ := NM B
 have bd : BZ (s + 5) n (bO f) := h.bz.bO (by omega)
 have hJ := two_pow_pos (jb 4500000000 n β)
 have hJ1 : (1 : Rat) / 2 ^ jb 4500000000 n β * 2 ^ jb 4500000000 n β = 1 := Rat.div_mul_cancel (Rat.ne_of_gt hJ)
 refine ⟨1 / 2 ^ jb 4500000000 n β, (Rat.lt_div_iff hJ).2 (by grind), ?_⟩
 exact Lcl.mono (QR hn hf (h.bz.mono (by omega) (Nat.le_refl _)) h.pot (gR bd) hg (by rw [hJ1]; exact Rat.le_refl)) hβ⟩
theorem T9 {L : List ZX} {f : ZX} (h : xC L f) {b : Rat} (hb : ∀ a, Bg a b f) : vr (QI L) = vt L b := by
 obtain ⟨X, hX, _, h2⟩ := aaq L
 by_cases xE : b ≤ -X
 ·exact (h2 b xE).symm
 ·rw [← h2 (-X) Rat.le_refl]
  exact h.bg (hb (-X)) (Rat.not_le.1 xE)
theorem NN {L : List ZX} {f : ZX} (h : xC L f) {a : Rat} (ha : ∀ b, Bg a b f) : vr (QJ L) = vt L a := by
 obtain ⟨X, hX, h1, _⟩ := aaq L
 by_cases xE : X ≤ a
 ·exact (h1 a xE).symm
 ·rw [← h1 X Rat.le_refl]
  exact (h.bg (ha X) (Rat.not_le.1 xE)).symm
theorem iP (p q : Rat) : (dH (p.num * q.den) (q.num * p.den) < 0) ↔ p < q := by
 rw [mP, Rat.lt_iff]
theorem agf (C : List ZX) (q : Rat) : vt C q ≤ C.length := by
 have := AL (lC C q.num q.den)
 rw [AM] at this
 simpa [lC] using this
theorem JZ {n d : Int} (h : d ≠ 0) : cX n d = (n : Rat) / d := by rw [cX, if_neg h, Rat.divInt_eq_div]
theorem NO {n d : Int} (h : d ≠ 0) {q : Rat} (e : (n : Rat) = q * d) : cX n d = q := by
 have hd : (d : Rat) ≠ 0 := fun h0 => h (Rat.intCast_eq_zero_iff.1 h0)
 rw [JZ h, e, Rat.mul_div_cancel hd]
theorem FR (q : Rat) : ((q.num : Int) : Rat) = q * ((q.den : Int) : Rat) := by
 have hd : (0 : Rat) < ((q.den : Int) : Rat) := Rat.intCast_pos.2 (by have := q.den_pos; omega)
 have h1 : q = (q.num : Rat) / ((q.den : Int) : Rat) := by
  rw [← Rat.divInt_eq_div, Rat.num_divInt_den]
 have h2 := Rat.div_mul_cancel (a := (q.num : Rat)) (Rat.ne_of_gt hd)
 rw [← h1] at h2
 exact h2.symm
theorem ad2 {n d : Int} (hn : sz LL n < 1099511627770) (hd : sz LL d < 1099511627770) (h0 : d ≠ 0) : aL env.P 163 [I n, I d] (.eN [RT (cX n d), .int .i64 0]) := by
 have n1 := EP (x := d) (by show _ < _; omega)
 have n2 := EP (x := n) (by show _ < _; omega)
 have z1 := DE d
 have l1 := sA hn hd h0
 rw [show decide (d = 0) = false from decide_eq_false h0] at z1
 show aL env.P _ _ (.eN [T2 (cX n d).num (cX n d).den, _])
 replace l1 : aL env.P 192 [I n, I d] (T2 (cX n d).num (cX n d).den) := l1
 generalize (cX n d).num = rn at *
 generalize ((cX n d).den : Int) = rd at *
 refine aB (E := env) (fun _ => 0) [(0, I n), (1, I d)] Tryz.func163 rfl (by kernel_rfl) (by kernel_rfl) (show 2 ≤ 15 by decide) (by simp) ?_
 refine W.sr ?_; simp (disch := omega) [gw]; refine W.lx [2, 3, 4] ?_; simp
 refine W.seq ?_
 refine W.sr ?_
 simp (disch := omega) [gw]
 refine aA n1 ?_
 simp (disch := omega) [gw]
 refine W.lx [2, 3, 4] ?_; simp
 refine W.sr ?_
 simp (disch := omega) [gw]
 refine aA z1 ?_
 simp (disch := omega) [gw]
 refine W.lx [2, 3, 4, 9] ?_; simp
 refine W.cond ⟨_, rfl, fun h => ?_, fun h => ?_⟩
 ·simp at h
 refine W.skip ?_
 refine W.sd ?_
 simp (maxSteps := 4000000) (disch := omega) [gw]
 refine aA n2 ?_
 simp (maxSteps := 4000000) (disch := omega) [gw]
 refine aA l1 ?_
 simp (maxSteps := 4000000) (disch := omega) [gw]
 (try (refine cP (of_decide_eq_true (by kernel_rfl)) ?_)); (try simp (maxSteps := 4000000) (disch := omega) [gw]); (repeat rw [if_pos (by kernel_rfl)]); (try simp (maxSteps := 4000000) (disch := omega) [gw])
 refine W.lx [4, 5] ?_; simp
 refine W.ret ?_
 simp [go]
theorem aji (p q : Rat) : cX (p.num * q.den + q.num * p.den) (p.den * q.den * 2) = (p + q) / 2 := by
 have h1 : ((p.den : Int) * q.den * 2) ≠ 0 := by
  have := p.den_nz; have := q.den_nz
  refine Int.mul_ne_zero (Int.mul_ne_zero ?_ ?_) (by decide) <;> omega
 refine NO h1 ?_
 rw [Rat.intCast_add, Rat.intCast_mul, Rat.intCast_mul, Rat.intCast_mul, Rat.intCast_mul, FR p, FR q]
 have h2 : (p + q) / 2 * 2 = p + q := Rat.div_mul_cancel (by decide)
 show _ = (p + q) / 2 * (((p.den : Int) : Rat) * ((q.den : Int) : Rat) * 2)
 generalize (p + q) / 2 = m at *
 grind
theorem aar {p q : Rat} {k : Nat} (hp : sz LL p.num ≤ k ∧ sz LL (p.den : Int) ≤ k) (hq : sz LL q.num ≤ k ∧ sz LL (q.den : Int) ≤ k) (hk : k ≤ 300000000000) : aL env.P 118 [RT p, RT q] (RT ((p + q) / 2)) := by
 have c1 := DF hp.1 hp.2 hq.1 hq.2 (by omega) (fX p) (fX q) hp hq
 have g1 := bS (b := LL) fL hp.1 hq.2
 have g2 := bS (b := LL) fL hq.1 hp.2
 have g3 := bS (b := LL) fL hp.2 hq.2
 have s2 : sz LL 2 ≤ 1 := cS (k := 1) fL (by decide)
 have g4 := bS (b := LL) fL g3 s2
 have g5 := mG (b := LL) fL (Nat.le_trans g1 (show k + k ≤ k + k from Nat.le_refl _)) (Nat.le_trans g2 (show k + k ≤ k + k from Nat.le_refl _))
 have a1 := O3 (x := p.num * q.den) (y := q.num * p.den) (by show _ < _; omega) (by show _ < _; omega)
 have o1 := zC 2 (by decide) (by decide)
 have m1 := tC (x := (p.den : Int) * q.den) (y := 2) (by show _ < _; omega) (by show _ < _; omega)
 have h1 : ((p.den : Int) * q.den * 2) ≠ 0 := by
  have := p.den_nz; have := q.den_nz
  refine Int.mul_ne_zero (Int.mul_ne_zero ?_ ?_) (by decide) <;> omega
 have l1 := sA (n := p.num * q.den + q.num * p.den) (d := p.den * q.den * 2) (by omega) (by omega) h1
 rw [aji] at l1
 show aL env.P _ [T2 p.num p.den, T2 q.num q.den] (T2 ((p + q) / 2).num ((p + q) / 2).den)
 replace l1 : aL env.P 192 [I (p.num * q.den + q.num * p.den), I (p.den * q.den * 2)] (T2 ((p + q) / 2).num ((p + q) / 2).den) := l1
 clear g1 g2 g3 g4 g5 h1 hp hq
 generalize ((p + q) / 2).num = rn at *
 generalize (((p + q) / 2).den : Int) = rd at *
 generalize p.num * (q.den : Int) + q.num * p.den = x4 at *
 generalize (p.den : Int) * q.den * 2 = x5 at *
 generalize p.num * (q.den : Int) = x1 at *
 generalize q.num * (p.den : Int) = x2 at *
 generalize (p.den : Int) * (q.den : Int) = x3 at *
 generalize p.num = pn at *
 generalize (p.den : Int) = pd at *
 generalize q.num = qn at *
 generalize (q.den : Int) = qd at *
 refine aB (E := env) (fun _ => 0) [(0, T2 pn pd), (1, T2 qn qd)] Tryz.func118 rfl (by kernel_rfl) (by kernel_rfl) (show 2 ≤ 22 by decide) (by simp) ?_
 refine W.sr ?_; simp (disch := omega) [gw]; refine W.lx [2, 3, 4] ?_; simp
 refine W.sr ?_
 simp (disch := omega) [gw]
 refine aA c1 ?_
 simp (disch := omega) [gw]
 refine W.lx [4, 5, 6, 7] ?_; simp
 refine W.sd ?_
 simp (maxSteps := 4000000) (disch := omega) [gw]
 refine aA a1 ?_
 simp (maxSteps := 4000000) (disch := omega) [gw]
 refine aA o1 ?_
 simp (maxSteps := 4000000) (disch := omega) [gw]
 refine aA m1 ?_
 simp (maxSteps := 4000000) (disch := omega) [gw]
 refine aA l1 ?_
 simp (maxSteps := 4000000) (disch := omega) [gw]
 (try (refine cP (of_decide_eq_true (by kernel_rfl)) ?_)); (try simp (maxSteps := 4000000) (disch := omega) [gw]); (repeat rw [if_pos (by kernel_rfl)]); (try simp (maxSteps := 4000000) (disch := omega) [gw])
 refine W.lx [4] ?_; simp
 refine W.ret ?_
 simp [go]
theorem UA {p : Rat} (hp : sz LL p.num < 1099511627770 ∧ sz LL (p.den : Int) < 1099511627770) : aL env.P 86 [RT p] (RT (-p)) := by
 have n1 := qI hp.1 hp.2
 rw [fX] at n1
 have n2 := afF (x := p.num) (by show _ < _; omega)
 replace n1 : aL env.P 164 [T2 p.num p.den] (T2 p.num p.den) := n1
 show aL env.P _ [T2 p.num p.den] (T2 (-p).num (-p).den)
 rw [Rat.neg_num, Rat.neg_den]
 generalize -p.num = rn at *
 generalize p.num = pn at *
 generalize (p.den : Int) = pd at *
 refine aB (E := env) (fun _ => 0) [(0, T2 pn pd)] Tryz.func86 rfl (by kernel_rfl) (by kernel_rfl) (show 1 ≤ 10 by decide) (by simp) ?_
 refine W.sr ?_; simp (disch := omega) [gw]; refine W.lx [1, 2] ?_; simp
 refine W.sr ?_
 simp (disch := omega) [gw]
 refine aA n1 ?_
 simp (disch := omega) [gw]
 refine W.lx [1, 2] ?_; simp
 refine W.sr ?_
 simp (disch := omega) [gw]
 refine aA n2 ?_
 simp (disch := omega) [gw]
 refine W.lx [1, 2] ?_; simp
 refine W.sr ?_; simp (disch := omega) [gw]; refine W.lx [2] ?_; simp
 refine W.ret ?_
 simp [go]
theorem aas {p q : Rat} (hp : ZR YY p) (hq : ZR YY q) (hs : ZR YY (p + q)) : aL env.P 60 [RR p, RR q] (RR ((p + q) / 2)) := by
 have a1 := zS p q hp hq
 have o1 := tJ 1 2 (by decide) (by decide)
 have m1 := zT (p + q) (cX 1 2) hs ⟨by decide, by decide⟩
 have e : (p + q) * cX 1 2 = (p + q) / 2 := by
  rw [show cX 1 2 = (1 : Rat) / 2 by rw [JZ (by decide)]; rfl]; grind
 rw [e] at m1
 rw [dP] at *
 rw [dP q, dP (p + q), dP (cX 1 2)] at *
 generalize (p + q) / 2 = m at *
 generalize p + q = s at *
 generalize cX 1 2 = hf at *
 generalize p.num = pn at *
 generalize (p.den : Int) = pd at *
 generalize q.num = qn at *
 generalize (q.den : Int) = qd at *
 generalize s.num = sn at *
 generalize (s.den : Int) = sd at *
 generalize hf.num = fn at *
 generalize (hf.den : Int) = fd at *
 rw [dP] at *
 generalize m.num = mn at *
 generalize (m.den : Int) = md at *
 refine aB (E := env) (fun _ => 0) [(0, R2 pn pd), (1, R2 qn qd)] Tryz.func60 rfl (by kernel_rfl) (by kernel_rfl) (show 2 ≤ 10 by decide) (by simp) ?_
 refine W.sr ?_; simp (disch := omega) [gw]; refine W.lx [2, 3, 4] ?_; simp
 refine W.sr ?_
 simp (disch := omega) [gw]
 refine aA a1 ?_
 simp (disch := omega) [gw]
 refine aA o1 ?_
 simp (disch := omega) [gw]
 refine aA m1 ?_
 simp (disch := omega) [gw]
 refine W.lx [4] ?_; simp
 refine W.ret ?_
 simp [go]
theorem aat {d : Int} (h : sz LL d < 4294967296) : aL env.P 34 [I d] (RI d) := by
 have h1 := CP (decide (d < 0)) (aR LL d.natAbs) (by have : sz LL d = (aR LL d.natAbs).length := rfl; omega) (eP fL _)
 rw [show iv (decide (d < 0)) (aR LL d.natAbs) = d from H3 d] at h1
 exact h1
theorem UB {p : Rat} (hp : sz LL p.num < 4294967296 ∧ sz LL (p.den : Int) < 4294967296) (hY : Y p.num ∧ Y (p.den : Int)) : aL env.P 28 [RT p] (RR p) := by
 have f1 := aat hp.1
 have f2 := aat hp.2
 have m1 := kY p.num p.den hY.1 hY.2
 rw [fX, dP] at m1
 rw [dP]
 show aL env.P _ [T2 p.num p.den] _
 replace f1 : aL env.P 34 [I p.num] (RI p.num) := f1
 replace f2 : aL env.P 34 [I (p.den : Int)] (RI (p.den : Int)) := f2
 generalize p.num = pn at *
 generalize (p.den : Int) = pd at *
 refine aB (E := env) (fun _ => 0) [(0, T2 pn pd)] Tryz.func28 rfl (by kernel_rfl) (by kernel_rfl) (show 1 ≤ 10 by decide) (by simp) ?_
 refine W.sr ?_; simp (disch := omega) [gw]; refine W.lx [1, 2] ?_; simp
 refine W.sd ?_
 simp (maxSteps := 4000000) (disch := omega) [gw]
 refine aA f1 ?_
 simp (maxSteps := 4000000) (disch := omega) [gw]
 refine aA f2 ?_
 simp (maxSteps := 4000000) (disch := omega) [gw]
 refine aA m1 ?_
 simp (maxSteps := 4000000) (disch := omega) [gw]
 (try (refine cP (of_decide_eq_true (by kernel_rfl)) ?_)); (try simp (maxSteps := 4000000) (disch := omega) [gw]); (repeat rw [if_pos (by kernel_rfl)]); (try simp (maxSteps := 4000000) (disch := omega) [gw])
 refine W.lx [2] ?_; simp
 refine W.ret ?_
 simp [go]
theorem agh {x : Int} (hx : Sz x) : aL env.P 162 [I x] (I (x.natAbs : Int)) := by
 have h1 := YK (decide (x < 0)) (aR LL x.natAbs) hx.UX
 rw [show V 4294967296 (aR LL x.natAbs) = (x.natAbs : Int) from jE fL _] at h1
 exact h1
def oH (x : List Int) : Nat → Int
 | 0 => 0
 | i + 1 => if oH x i < ((nth x i).natAbs : Int) then ((nth x i).natAbs : Int) else oH x i
theorem aau (x : List Int) : ∀ i, 0 ≤ oH x i
 | 0 => Int.le_refl _
 | i + 1 => by
  have := aau x i
  rw [oH]; split <;> omega
theorem aav (x : List Int) : ∀ i k, k < i → ((nth x k).natAbs : Int) ≤ oH x i
 | 0, k, h => by omega
 | i + 1, k, h => by
  rw [oH]
  by_cases hk : k = i
  ·subst hk; split <;> omega
  ·have := aav x i k (by omega)
   split <;> omega
theorem FT {b s n : Nat} {x : List Int} (h : Bd b s n x) : ∀ i, Pm.sz b (oH x i) ≤ s
 | 0 => by show Pm.sz b 0 ≤ s; rw [i3]; omega
 | i + 1 => by
  have ih := FT h i
  have h1 := h.nth i
  have h2 : Pm.sz b ((nth x i).natAbs : Int) = Pm.sz b (nth x i) := by unfold Pm.sz; rw [Int.natAbs_natCast]
  rw [oH]; split
  ·rw [h2]; exact h1
  ·exact ih
def i7 (x : List Int) : Rat := cX (((lead x).natAbs : Int) + oH x (x.length - 1)) ((lead x).natAbs : Int)
theorem NP {α : Type} {g : α → List PV} {l : List α} {s n : Nat} {x : List Int} (hN : aL env.P 101 [aJ g l] (Po x)) (cx : Cn x) (hx : x ≠ []) (b : Bd LL s n x) (hs : s < 500000000000) (hn : n < 500000000000) : aL env.P 84 [aJ g l] (.eN [RT (i7 x), .int .i64 0]) := by
 have n8 : 0 < x.length := List.length_pos_iff.2 hx
 have hlen := b.len
 have wX := cI cx n8
 have L1 := jO (PB.of b (by omega) (by omega)) cx
 have hld := fA b
 have A1 := agh (x := lead x) (Nat.lt_of_le_of_lt hld (by omega))
 have ajj : sz LL ((lead x).natAbs : Int) ≤ s := Nat.le_trans (cU fL (by simp)) hld
 have hm := FT b (x.length - 1)
 have S1 := O3 (x := ((lead x).natAbs : Int)) (y := oH x (x.length - 1)) (Nat.lt_of_le_of_lt ajj (by omega)) (Nat.lt_of_le_of_lt hm (by omega))
 have atS := mG (b := LL) fL ajj hm
 have M1 := ad2 (n := ((lead x).natAbs : Int) + oH x (x.length - 1)) (d := ((lead x).natAbs : Int)) (by omega) (by omega) (by omega)
 replace M1 : aL env.P 163 [I (((lead x).natAbs : Int) + oH x (x.length - 1)), I ((lead x).natAbs : Int)] (.eN [T2 (i7 x).num (i7 x).den, .int .i64 0]) := M1
 show aL env.P _ _ (.eN [T2 (i7 x).num (i7 x).den, _])
 have C1 : ∀ i, i < x.length → aL env.P 162 [I (nth x i)] (I ((nth x i).natAbs : Int)) ∧ aL env.P 133 [I ((nth x i).natAbs : Int), I (oH x i)] (.int .i64 (dH ((nth x i).natAbs : Int) (oH x i))) := fun i hi => by
  have h1 := b.nth i
  have h2 : sz LL ((nth x i).natAbs : Int) ≤ s := Nat.le_trans (cU fL (by simp)) h1
  exact ⟨agh (Nat.lt_of_le_of_lt h1 (by omega)), X6 (Nat.lt_of_le_of_lt h2 (by omega)) (Nat.lt_of_le_of_lt (FT b i) (by omega))⟩
 have UP : ∀ i, oH x (i + 1) = if 0 < dH ((nth x i).natAbs : Int) (oH x i) then ((nth x i).natAbs : Int) else oH x i := fun i => by
  rw [oH]
  by_cases h : oH x i < ((nth x i).natAbs : Int)
  ·rw [if_pos h, if_pos (sY.2 h)]
  ·rw [if_neg h, if_neg (fun q => h (sY.1 q))]
 have h0 : oH x 0 = 0 := rfl
 clear hm atS ajj hld
 generalize (i7 x).num = rn at *
 generalize ((i7 x).den : Int) = rd at *
 generalize ((lead x).natAbs : Int) + oH x (x.length - 1) = sm at *
 generalize ((lead x).natAbs : Int) = la at *
 generalize oH x = mf at *
 have e1 : ((x.length : Int) - 1).toNat = x.length - 1 := by omega
 have e2 : (x.length : Int) - 1 = ((x.length - 1 : Nat) : Int) := by omega
 refine aB (E := env) (fun _ => 0) [(0, aJ g l)] Tryz.func84 rfl (by kernel_rfl) (by kernel_rfl) (show 1 ≤ 43 by decide) (by simp) ?_
 refine W.sr ?_; simp (disch := omega) [gw]; refine W.lx [0, 2] ?_; simp
 refine W.sr ?_
 simp (disch := omega) [gw]
 refine aA hN ?_
 simp (disch := omega) [gw]
 refine W.lx [0, 2] ?_; simp
 refine W.seq ?_
 refine W.sr ?_; simp (disch := omega) [gw]; refine W.lx [0, 2, 13] ?_; simp
 refine W.cond ⟨_, rfl, fun h => ?_, fun h => ?_⟩
 ·simp at h; exact absurd h hx
 refine W.skip ?_
 refine W.sr ?_; simp (disch := omega) [gw]; refine W.lx [0, 2, 4] ?_; simp
 refine W.row (id := 4) (els := [[.bool false, .nil]]) [[.bool (decide ((0 : Int) < 0)), us (aR LL (0 : Int).natAbs)]] (by simp; first | exact ⟨rfl, rfl, rfl⟩ | exact ⟨rfl, rfl⟩ | rfl) ⟨⟨.inl rfl, .inr ⟨rfl, rfl⟩, trivial⟩, trivial⟩ ?_
 refine W.seq ?_
 refine W.sr ?_
 simp (disch := omega) [gw, e1, e2]
 refine W.lx [0, 2, 4, 19, 20, 21] ?_; simp
 refine W.block ?_
 refine W.bB (fun k σ => ∃ (v2 e2 v4 e4 i : Nat) (rows : Pm.Rows) (clk : Nat), σ = ⟨fa [(0, Po x), (2, .ptr 2 v2 0 0), (4, .ptr 4 v4 0 0), (19, aJ ie (x.take (x.length - 1))), (20, .int .i64 ((x.length - 1 : Nat) : Int)), (21, .int .i64 i)], rows, clk⟩ ∧ i + k = x.length - 1 ∧
  rows 2 = some ⟨v2, e2, 4, [[.bool false, .nil, .bool false, .nil]]⟩ ∧ rows 4 = some ⟨v4, e4, 2, [[.bool (decide (mf i < 0)), us (aR LL (mf i).natAbs)]]⟩) (x.length - 1) ?_ ?_
 ·exact ⟨_, .refl, _, _, _, _, 0, _, _, rfl, by omega, by simp; (first | exact ⟨rfl, rfl⟩ | rfl), by rw [h0]; simp; (first | exact ⟨rfl, rfl⟩ | rfl)⟩
 rintro k _ ⟨v2, e2, v4, e4, i, rows, clk, rfl, UY, cT, jF⟩
 refine W.sr ?_; simp (disch := omega) [gw]; refine W.lx [0, 2, 4, 19, 20, 21, 22] ?_; simp
 refine W.seq ?_
 refine W.cond ⟨_, rfl, fun h => ?_, fun h => ?_⟩
 ·have hi : i < x.length - 1 := by simp at h; omega
  have hi2 : i < x.length := by omega
  have AZ : nth (x.take (x.length - 1)) i = nth x i := by unfold nth; rw [List.getElem?_take_of_lt hi]
  obtain ⟨c1, c2⟩ := C1 i hi2
  have hm := UP i
  generalize dH ((nth x i).natAbs : Int) (mf i) = cv at *
  generalize ((nth x i).natAbs : Int) = ab at *
  generalize nth x i = xi at *
  refine W.skip ?_
  refine W.eY (fun σ => ∃ (v2 e2 v4 e4 : Nat) (rows : Pm.Rows) (clk : Nat), σ = ⟨fa [(0, Po x), (2, .ptr 2 v2 0 0), (4, .ptr 4 v4 0 0), (19, aJ ie (x.take (x.length - 1))), (20, .int .i64 ((x.length - 1 : Nat) : Int)), (21, .int .i64 i)], rows, clk⟩ ∧
   rows 2 = some ⟨v2, e2, 4, [[.bool false, .nil, .bool false, .nil]]⟩ ∧ rows 4 = some ⟨v4, e4, 2, [[.bool (decide (mf (i + 1) < 0)), us (aR LL (mf (i + 1)).natAbs)]]⟩) ?_ ?_
  ·refine W.sr ?_; simp (disch := omega) [gw, hi, AZ]; refine W.lx [0, 2, 4, 6, 19, 20, 21] ?_; simp
   refine W.sr ?_
   simp (disch := omega) [gw]
   refine aA c1 ?_
   simp (disch := omega) [gw]
   refine W.lx [0, 2, 4, 7, 19, 20, 21] ?_; simp
   refine W.sr ?_
   simp (disch := omega) [gw, jF]
   refine aA c2 ?_
   simp (disch := omega) [gw]
   refine W.lx [0, 2, 4, 7, 19, 20, 21, 30] ?_; simp
   refine W.cond ⟨_, rfl, fun h => ?_, fun h => ?_⟩
   ·have h : 0 < cv := by simpa using h
    rw [if_pos h] at hm
    refine W.b9 (fun K hK => ?_); simp (disch := omega) [gw, jF]
    exact hK _ ⟨_, aC _ [0, 2, 4, 19, 20, 21], _, _, _, _, _, _, rfl, by simp [cT]; exact rfl, by simp [hm]; exact rfl⟩
   ·have h : ¬ 0 < cv := by simpa using h
    rw [if_neg h] at hm
    refine W.skip ?_
    exact ⟨_, aC _ [0, 2, 4, 19, 20, 21], _, _, _, _, _, _, rfl, by simp [cT]; exact rfl, by simp [hm, jF]; exact rfl⟩
  rintro _ ⟨v2, e2, v4, e4, rows, clk, rfl, cT, jF⟩
  refine W.b9 (fun K hK => ?_); simp (disch := omega) [gw]
  refine hK _ ⟨k - 1, _, aC _ [0, 2, 4, 19, 20, 21], by omega, _, _, _, _, i + 1, _, _, rfl, by omega, cT, jF⟩
 ·have hi : i = x.length - 1 := by simp at h; omega
  subst hi
  refine W.exit ?_; simp only [pX, if_true, if_false, reduceIte, Nat.reduceEqDiff]
  refine W.sr ?_
  simp (disch := omega) [gw]
  refine aA L1 ?_
  simp (disch := omega) [gw]
  refine aA A1 ?_
  simp (disch := omega) [gw]
  refine W.lx [2, 4, 8] ?_; simp
  refine W.sd ?_
  simp (disch := omega) [gw, jF]
  refine aA S1 ?_
  simp (maxSteps := 4000000) (disch := omega) [gw]
  refine aA M1 ?_
  simp (disch := omega) [gw, cT]
  (try (refine cP (of_decide_eq_true (by kernel_rfl)) ?_)); (try simp (maxSteps := 4000000) (disch := omega) [gw, cT]); (repeat rw [if_pos (by kernel_rfl)]); (try simp (maxSteps := 4000000) (disch := omega) [gw, cT])
  refine W.lx [2, 3] ?_; simp
  refine W.ret ?_
  simp [go]
theorem NQ {x : List Int} (cx : Cn x) (hx : x ≠ []) : i7 x = 1 + ((oH x (x.length - 1) : Int) : Rat) / (((lead x).natAbs : Int) : Rat) := by
 have wX := cI cx (List.length_pos_iff.2 hx)
 have h1 : ((lead x).natAbs : Int) ≠ 0 := by omega
 have h2 : (((lead x).natAbs : Int) : Rat) ≠ 0 := fun h => h1 (Rat.intCast_eq_zero_iff.1 h)
 refine NO h1 ?_
 rw [Rat.intCast_add]
 have h3 := Rat.div_mul_cancel (a := ((oH x (x.length - 1) : Int) : Rat)) h2
 generalize ((oH x (x.length - 1) : Int) : Rat) / (((lead x).natAbs : Int) : Rat) = w at *
 grind
end Go.Proofs.YtbbjgncblhfegaaGreat
namespace Pm
theorem aaw : ∀ (n : Nat) (f : Nat → Nat), (∀ k, k ≤ n → f k < n) → ∃ i j, i < j ∧ j ≤ n ∧ f i = f j
 | 0, f, h => absurd (h 0 (Nat.le_refl _)) (by omega)
 | n + 1, f, h => by
  by_cases hx : ∃ i, i ≤ n ∧ f i = f (n + 1)
  ·obtain ⟨i, hi, e⟩ := hx
   exact ⟨i, n + 1, by omega, Nat.le_refl _, e⟩
  ·have sH : ∀ i, i ≤ n → f i ≠ f (n + 1) := fun i hi e => hx ⟨i, hi, e⟩
   have hm := h (n + 1) (Nat.le_refl _)
   obtain ⟨i, j, hij, hj, e⟩ := aaw n (fun k => if f k = n then f (n + 1) else f k) (fun k hk => by
    have h1 := h k (by omega)
    have h2 := sH k hk
    show (if f k = n then f (n + 1) else f k) < n
    split <;> omega)
   refine ⟨i, j, hij, by omega, ?_⟩
   have h1 := sH i (by omega)
   have h2 := sH j hj
   have e' : (if f i = n then f (n + 1) else f i) = (if f j = n then f (n + 1) else f j) := e
   split at e' <;> split at e' <;> omega
def NR (b : Nat) : Nat → Nat → List Int
 | 0, _ => []
 | n + 1, k => ((k % b : Nat) : Int) :: NR b n (k / b)
theorem uA (b : Nat) : ∀ n k, (NR b n k).length = n
 | 0, _ => rfl
 | n + 1, k => by rw [NR, List.length_cons, uA b n]
theorem qJ {b : Nat} (hb : 0 < b) : ∀ n k, ∀ c ∈ NR b n k, 0 ≤ c ∧ c < b
 | 0, _, c, h => by cases h
 | n + 1, k, c, h => by
  rcases List.mem_cons.1 h with rfl | h
  ·have := Nat.mod_lt k hb; omega
  ·exact qJ hb n _ c h
theorem QS {b : Nat} (hb : 0 < b) : ∀ n k m, k < b ^ n → m < b ^ n → NR b n k = NR b n m → k = m
 | 0, k, m, h1, h2, _ => by simp at h1 h2; omega
 | n + 1, k, m, h1, h2, h => by
  rw [NR, NR] at h
  injection h with h3 h4
  rw [Nat.pow_succ] at h1 h2
  have h5 := QS hb n (k / b) (m / b) ((Nat.div_lt_iff_lt_mul hb).2 h1) ((Nat.div_lt_iff_lt_mul hb).2 h2) h4
  have h6 := Nat.div_add_mod k b
  have h7 := Nat.div_add_mod m b
  rw [h5] at h6
  omega
def NS (R : Nat) : List Nat → Nat
 | [] => 0
 | x :: l => x + R * NS R l
theorem aax {R : Nat} : ∀ l : List Nat, (∀ x ∈ l, x < R) → NS R l < R ^ l.length
 | [], _ => by simp [NS]
 | x :: l, h => by
  have h1 := aax l fun y hy => h y (List.mem_cons_of_mem _ hy)
  have h2 := h x (List.mem_cons_self ..)
  rw [NS, List.length_cons, Nat.pow_succ]
  have h3 : R * (NS R l + 1) ≤ R * R ^ l.length := Nat.mul_le_mul_left _ h1
  rw [Nat.mul_add] at h3
  rw [Nat.mul_comm (R ^ _)]
  omega
theorem QT {R : Nat} : ∀ l m : List Nat, l.length = m.length → (∀ x ∈ l, x < R) → (∀ x ∈ m, x < R) → NS R l = NS R m → l = m
 | [], [], _, _, _, _ => rfl
 | [], _ :: _, h, _, _, _ => by simp at h
 | _ :: _, [], h, _, _, _ => by simp at h
 | x :: l, y :: m, hl, h1, h2, e => by
  rw [NS, NS] at e
  have hx := h1 x (List.mem_cons_self ..)
  have hy := h2 y (List.mem_cons_self ..)
  have e1 : (x + R * NS R l) % R = (y + R * NS R m) % R := by rw [e]
  rw [Nat.add_mul_mod_self_left, Nat.add_mul_mod_self_left, Nat.mod_eq_of_lt hx, Nat.mod_eq_of_lt hy] at e1
  subst e1
  have e2 : R * NS R l = R * NS R m := by omega
  have e3 := Nat.eq_of_mul_eq_mul_left (by omega) e2
  rw [QT l m (by simpa using hl) (fun z hz => h1 z (List.mem_cons_of_mem _ hz)) (fun z hz => h2 z (List.mem_cons_of_mem _ hz)) e3]
theorem pM {X Y : Nat} : ∀ (x y : List Int), (∀ c ∈ x, c.natAbs ≤ X) → (∀ i, (nth y i).natAbs ≤ Y) → ∀ i, (nth (bI x y) i).natAbs ≤ x.length * (X * Y)
 | [], y, _, _, i => by
  rw [show bI [] y = [] from rfl, kT]; simp
 | k :: x, y, hx, hy, i => by
  have hk := hx k (List.mem_cons_self ..)
  have ih := pM x y (fun c hc => hx c (List.mem_cons_of_mem _ hc)) hy
  have h1 : ∀ j, (nth y j * k).natAbs ≤ X * Y := fun j => by
   rw [Int.natAbs_mul, Nat.mul_comm]
   exact Nat.mul_le_mul hk (hy j)
  rw [List.length_cons, Nat.add_mul, Nat.one_mul]
  cases i with
  | zero =>
   rw [o8]
   have := h1 0; omega
  | succ i =>
   rw [kU]
   have h2 := h1 (i + 1)
   have h3 := ih i
   have h4 := Int.natAbs_add_le (nth y (i + 1) * k) (nth (bI x y) i)
   omega
theorem NT {A : Nat} {y : List Int} (h : ∀ c ∈ y, c.natAbs ≤ A) (i : Nat) : (nth y i).natAbs ≤ A := by
 rcases Nat.lt_or_ge i y.length with h1 | h1
 ·exact h _ (bK h1)
 ·rw [fS h1]; exact Nat.zero_le _
namespace ZX
theorem xV (x y : ZX) (i : Nat) : nth (x - y).l i = nth x.l i - nth y.l i := by
 have h : x = (x - y) + y := by grind
 have h2 : nth x.l i = nth ((x - y) + y).l i := by rw [← h]
 rw [show ((x - y) + y).l = fU (x - y).l y.l from rfl, s6] at h2
 omega
theorem ad3 {a b v : ZX} (ha : a ≠ 0) (hc : ∀ d, dv d a → dv d b → N d ≤ 1) (h : dv a (v * b)) : dv a v := by
 obtain ⟨g, hg⟩ := iE _ a b (Nat.le_refl _)
 have h0 := hg.ne (.inl ha)
 have h1 := hc g hg.l hg.r
 have h2 := ZX.aG.1 h0
 obtain ⟨k, hk, rfl⟩ := mV (show N g = 1 by omega)
 obtain ⟨c, s8, u', v', e⟩ := hg.uv
 rw [mU] at e
 refine dv.JC (Int.mul_ne_zero s8 hk) ?_
 rw [e, show (u' * a + v' * b) * v = (u' * v) * a + v' * (v * b) by grind]
 exact ((dv.refl a).mul_left _).add (h.mul_left _)
theorem QU {l : List Int} {n : Nat} (h : l.length ≤ n) : N (of l) ≤ n := Nat.le_trans (bN l) h
theorem FU {x : ZX} {n : Nat} (hN : N x ≤ n + 1) (h : ∀ i, i < n → nth x.l (i + 1) = 0) : ∃ c : Int, x = K c := by
 rcases Nat.lt_or_ge (N x) 2 with h1 | h1
 ·rcases Nat.eq_zero_or_pos (N x) with h2 | h2
  ·refine ⟨0, ?_⟩
   have : x = 0 := Classical.byContradiction fun h0 => by have := ZX.aG.1 h0; omega
   rw [this]; rfl
  ·obtain ⟨c, _, e⟩ := mV (show N x = 1 by omega)
   exact ⟨c, e⟩
 ·exfalso
  have h2 : lead x.l ≠ 0 := cI x.c (show 0 < N x by omega)
  refine h2 ?_
  have h3 := h (N x - 2) (by omega)
  rw [show N x - 2 + 1 = x.l.length - 1 from by show N x - 2 + 1 = N x - 1; omega] at h3
  exact h3
theorem u9 (l : List Int) (i : Nat) : nth (of l).l i = nth l i := gP l i
theorem wU {l : List Int} {i n : Nat} (h : i < n) : nth (l.take n) i = nth l i := by
 simp only [nth, List.getElem?_take]
 rw [if_pos h]
theorem J0 {l : List Int} {i n : Nat} : nth (l.drop n) i = nth l (n + i) := by
 simp only [nth, List.getElem?_drop]
theorem ajk {a b : ZX} {A : Nat} (ha : a ≠ 0) (hb : b ≠ 0) (hA : ∀ c ∈ a.l, c.natAbs ≤ A) (hB : ∀ c ∈ b.l, c.natAbs ≤ A) (hc : ∀ d, dv d a → dv d b → N d ≤ 1) {X : Nat} (hX : (2 * (N a + N b) * A) ^ (N a + N b) ≤ X) :
  ∃ (u v : ZX) (c : Int), c ≠ 0 ∧ u * a + v * b = K c ∧ N u ≤ N b ∧ N v ≤ N a ∧ (∀ c ∈ u.l, c.natAbs ≤ X) ∧ ∀ c ∈ v.l, c.natAbs ≤ X := by
 have na := ZX.aG.1 ha
 have nb := ZX.aG.1 hb
 have hA1 : 1 ≤ A := by
  have h1 := cI a.c na
  have h2 := hA (lead a.l) (by unfold lead; exact bK (by have : a.l.length = N a := rfl; omega))
  omega
 have hX1 : 1 ≤ X := Nat.le_trans (Nat.one_le_pow _ _ (Nat.mul_pos (Nat.mul_pos (by decide) (by omega)) hA1)) hX
 rcases Nat.lt_or_ge 2 (N a + N b) with hm | hm
 ·obtain ⟨m, hmm⟩ : ∃ m, N a + N b = m + 3 := ⟨N a + N b - 3, by omega⟩
  let B := X + 1
  let W := (m + 1) * (X * A)
  let uu := fun k : Nat => of ((NR B (m + 1) k).take (N b - 1))
  let vv := fun k : Nat => of ((NR B (m + 1) k).drop (N b - 1))
  let L := fun k : Nat => uu k * a + vv k * b
  have hBp : 0 < B := Nat.succ_pos _
  have adi : ∀ k, ∀ c ∈ NR B (m + 1) k, c.natAbs ≤ X := fun k c hc => by
   have := qJ hBp _ _ c hc
   have : ((B : Nat) : Int) = X + 1 := by simp [B]
   omega
  have hu : ∀ k, ∀ c ∈ (uu k).l, c.natAbs ≤ X := fun k c hc => adi k c (List.mem_of_mem_take (o6 _ _ hc))
  have hv : ∀ k, ∀ c ∈ (vv k).l, c.natAbs ≤ X := fun k c hc => adi k c (List.mem_of_mem_drop (o6 _ _ hc))
  have hNu : ∀ k, N (uu k) ≤ N b - 1 := fun k => QU (by rw [List.length_take, uA]; omega)
  have hNv : ∀ k, N (vv k) ≤ N a - 1 := fun k => QU (by rw [List.length_drop, uA]; omega)
  have hW : ∀ k i, (nth (L k).l i).natAbs ≤ W := fun k i => by
   have e : (L k).l = fU (bI (uu k).l a.l) (bI (vv k).l b.l) := rfl
   rw [e, s6]
   have h1 := pM (uu k).l a.l (hu k) (NT hA) i
   have h2 := pM (vv k).l b.l (hv k) (NT hB) i
   have h3 : (uu k).l.length + (vv k).l.length ≤ m + 1 := by
    have h4 : N (uu k) ≤ N b - 1 := hNu k
    have h5 : N (vv k) ≤ N a - 1 := hNv k
    show N (uu k) + N (vv k) ≤ m + 1
    omega
   have h4 := Int.natAbs_add_le (nth (bI (uu k).l a.l) i) (nth (bI (vv k).l b.l) i)
   have h5 : (uu k).l.length * (X * A) + (vv k).l.length * (X * A) ≤ W := by
    rw [← Nat.add_mul]; exact Nat.mul_le_mul_right _ h3
   omega
  let im := fun k : Nat => (List.range m).map fun i => (nth (L k).l (i + 1) + W).toNat
  have him : ∀ k, ∀ x ∈ im k, x < 2 * W + 1 := fun k x hx => by
   simp only [im, List.mem_map] at hx
   obtain ⟨i, _, rfl⟩ := hx
   have := hW k (i + 1)
   omega
  have atT : (2 * W + 1) ^ m < B ^ (m + 1) := by
   have h1 : 2 * W + 1 ≤ (2 * (N a + N b) * A) * B := by
    have h2 : 2 * W = 2 * (m + 1) * A * X := by simp only [W]; grind
    have h3 : 2 * (m + 1) * A * X + 1 ≤ 2 * (N a + N b) * A * X + 2 * (N a + N b) * A := by
     have h4 : 2 * (m + 1) * A ≤ 2 * (N a + N b) * A := Nat.mul_le_mul_right _ (by omega)
     have h5 := Nat.mul_le_mul_right X h4
     have h6 : 1 ≤ 2 * (N a + N b) * A := Nat.mul_pos (by omega) hA1
     omega
    rw [h2, show B = X + 1 from rfl, Nat.mul_add, Nat.mul_one]
    exact h3
   have h2 := Nat.pow_le_pow_left h1 m
   rw [Nat.mul_pow] at h2
   have h3 : (2 * (N a + N b) * A) ^ m ≤ X := Nat.le_trans (Nat.pow_le_pow_right (Nat.mul_pos (by omega) hA1) (by omega)) hX
   have h4 : (2 * (N a + N b) * A) ^ m * B ^ m ≤ X * B ^ m := Nat.mul_le_mul_right _ h3
   have h5 : X * B ^ m < B * B ^ m := (Nat.mul_lt_mul_right (Nat.pow_pos hBp)).2 (Nat.lt_succ_self X)
   rw [Nat.pow_succ, Nat.mul_comm (B ^ m)]
   omega
  obtain ⟨n, hn⟩ : ∃ n, B ^ (m + 1) = n + 1 := ⟨B ^ (m + 1) - 1, by have := Nat.pow_pos (n := m + 1) hBp; omega⟩
  obtain ⟨i, j, hij, hj, e⟩ := aaw n (fun k => NS (2 * W + 1) (im k)) (fun k hk => by
   have h1 := aax (im k) (him k)
   rw [show (im k).length = m by simp [im]] at h1
   show NS (2 * W + 1) (im k) < n
   omega)
  have e2 := QT (im i) (im j) (by simp [im]) (him i) (him j) e
  have e3 : ∀ s, s < m → nth (L i).l (s + 1) = nth (L j).l (s + 1) := fun s hs => by
   have h1 : (im i)[s]? = (im j)[s]? := by rw [e2]
   simp only [im, List.getElem?_map, List.getElem?_range hs, Option.map_some] at h1
   injection h1 with h1
   have := hW i (s + 1)
   have := hW j (s + 1)
   omega
  have hNL : ∀ x y : ZX, N x ≤ N b - 1 → N y ≤ N a - 1 → N (x * a + y * b) ≤ m + 1 := fun x y hx hy => by
   have h1 : N (x * a + y * b) ≤ max (N (x * a)) (N (y * b)) := y9 _ _
   have h2 : N (x * a) ≤ N x + N a - 1 := o7 (x := x.l) (y := a.l) na
   have h3 : N (y * b) ≤ N y + N b - 1 := o7 (x := y.l) (y := b.l) nb
   omega
  have RD : N (uu i - uu j) ≤ N b - 1 := by
   have h1 : N (uu i - uu j) ≤ max (N (uu i)) (N (uu j)) := s0 _ _
   have := hNu i; have := hNu j; omega
  have hv' : N (vv i - vv j) ≤ N a - 1 := by
   have h1 : N (vv i - vv j) ≤ max (N (vv i)) (N (vv j)) := s0 _ _
   have := hNv i; have := hNv j; omega
  have eL : (uu i - uu j) * a + (vv i - vv j) * b = L i - L j := by simp only [L]; grind
  obtain ⟨c, MY⟩ := FU (x := (uu i - uu j) * a + (vv i - vv j) * b) (n := m) (hNL _ _ RD hv') (fun s hs => by
   rw [eL, xV, e3 s hs]; omega)
  have mD : ∀ (l l' : List Int), (∀ c ∈ l, 0 ≤ c ∧ c < (B : Int)) → (∀ c ∈ l', 0 ≤ c ∧ c < (B : Int)) → ∀ c ∈ (of l - of l').l, c.natAbs ≤ X := fun l l' h1 h2 c hc => by
   obtain ⟨s, hs, rfl⟩ := List.getElem_of_mem hc
   rw [← cC hs, xV, u9, u9]
   have hB1 : ((B : Nat) : Int) = X + 1 := by simp [B]
   have h3 : ∀ l : List Int, (∀ c ∈ l, 0 ≤ c ∧ c < (B : Int)) → 0 ≤ nth l s ∧ nth l s < (B : Int) := fun l hl => by
    rcases Nat.lt_or_ge s l.length with h4 | h4
    ·exact hl _ (bK h4)
    ·rw [fS h4]; exact ⟨by decide, by show (0 : Int) < _; omega⟩
   have := h3 l h1
   have := h3 l' h2
   omega
  refine ⟨uu i - uu j, vv i - vv j, c, fun h0 => ?_, MY, by omega, by omega, mD _ _ (fun c hc => qJ hBp _ _ c (List.mem_of_mem_take hc)) (fun c hc => qJ hBp _ _ c (List.mem_of_mem_take hc)),
   mD _ _ (fun c hc => qJ hBp _ _ c (List.mem_of_mem_drop hc)) (fun c hc => qJ hBp _ _ c (List.mem_of_mem_drop hc))⟩
  rw [h0, show K 0 = (0 : ZX) from rfl] at MY
  have hvz : vv i - vv j = 0 := Classical.byContradiction fun sH => by
   have h1 : dv a (vv i - vv j) := ad3 ha hc (b := b) ⟨1, by decide, -(uu i - uu j), by
    show (1 : ZX) * _ = _
    have : (vv i - vv j) * b = -((uu i - uu j) * a) := by grind
    rw [this]; grind⟩
   have := h1.pI sH
   omega
  have huz : uu i - uu j = 0 := Classical.byContradiction fun sH => by
   have h1 : (uu i - uu j) * a = 0 := by rw [hvz] at MY; grind
   exact kZ sH ha h1
  have hd : NR B (m + 1) i = NR B (m + 1) j := by
   have h1 : ∀ s, nth (NR B (m + 1) i) s = nth (NR B (m + 1) j) s := fun s => by
    rcases Nat.lt_or_ge s (N b - 1) with h2 | h2
    ·have h3 := xV (uu i) (uu j) s
     rw [huz, show nth (0 : ZX).l s = 0 from kT s] at h3
     simp only [uu] at h3
     rw [u9, u9, wU h2, wU h2] at h3
     omega
    ·have h3 := xV (vv i) (vv j) (s - (N b - 1))
     rw [hvz, show nth (0 : ZX).l (s - (N b - 1)) = 0 from kT _] at h3
     simp only [vv] at h3
     rw [u9, u9, J0, J0, show N b - 1 + (s - (N b - 1)) = s by omega] at h3
     omega
   refine List.ext_getElem (by rw [uA, uA]) fun s hs GO => ?_
   rw [← cC hs, ← cC GO, h1]
  have := QS hBp (m + 1) i j (by omega) (by omega) hd
  omega
 ·obtain ⟨c, s8, rfl⟩ := mV (show N a = 1 by omega)
  refine ⟨1, 0, c, s8, by grind, by rw [wJ]; omega, by rw [YH]; omega, fun x hx => ?_, fun x hx => by cases hx⟩
  have h1 : (1 : ZX).l = [1] := rfl
  rw [h1] at hx
  simp at hx; subst hx; exact hX1
end ZX
end Pm
