import Derived.Test.YtelhfbikiccfkaaGreatBan
import Derived.Test.YtelhfbikiccfkaaGreatBao
set_option linter.unusedSimpArgs false
set_option linter.unusedVariables false
namespace Pm
open Go Go.RowKit
def X5 (E : Env) (o : Oper) (K : PS → Prop) (σ : PS) : Prop :=
 match o.op with
 | .build t ⟨[(0, x)]⟩ => E.ty t = .struct [(0, 1, false)] (E.ty t).zero ∧ (E.ty t).zero.length = 1 ∧ bW (aR σ.f x) = some [aR σ.f x] ∧ iQ σ.rows (aR σ.f x) ∧ K (σ.put o.dst (.ag [aR σ.f x]))
 | _ => False
section
variable {E : Env} {w0 : World} {S0 : dW} {m : Nat} {G : Gs}
theorem RD {o : Oper} {a : Act} {w : World} {σ : PS} {K : PS → Prop} (h : X5 E o K σ) (hR : Rel w0 S0 m G σ a w) (hd : ∀ t, o.dst = some t → t < m)
  {K' : Act → World → Prop} {Q : Exit → Act → World → Prop} (hK : ∀ σ' a' w', K σ' → Rel w0 S0 m G σ' a' w' → K' a' w') : o.wp E.P a w K' Q := by
 obtain ⟨⟨c, rfl, hr, fX, hI, hf, hG⟩, hn, fM⟩ := hR
 have hρ := l8 hf
 obtain ⟨dst, op, type, pos, after, guard⟩ := o
 simp only at hd
 unfold X5 at h
 simp only at h
 split at h
 ·rename_i t x
  obtain ⟨hE, G2, hc, ho, hk⟩ := h
  rw [← hr] at ho
  obtain ⟨g1, g2⟩ := mK (hρ x) hc (fun q hq => by simp at hq; subst hq; exact ho)
  have ht := E.ok t
  rw [hE] at ht
  obtain ⟨⟨fields, hu, ha⟩, hz⟩ := ht
  obtain ⟨i, zv, hi, hzv, _, OP, _⟩ := hz.ok
  have DW : zv.cells.size = 1 := by
   have : (zv.cells.toList.map iX).length = 1 := by rw [OP]; exact G2
   simpa using this
  have J2 : (a.eval x).cells.size = 1 := by have := g1.length; simpa using this.symm
  have E0 := oT 0 (a.eval x).cells.toList 0 zv.cells (by simp; omega)
  have hl : ((a.eval x).cells.toList.zipIdx 0).foldl (fun cs (x : Value × Nat) => cs.setIfInBounds (0 + x.2) x.1) zv.cells = (a.eval x).cells := by
   apply Array.toList_inj.1
   rw [E0]
   have h1 : (a.eval x).cells.toList.length = 1 := by simpa using J2
   have h2 : zv.cells.toList.length = 1 := by simpa using DW
   rw [h1]
   simp [List.drop_of_length_le, h2]
  have jP : (execOp a.eval { dst := dst, op := .build t ⟨[(0, x)]⟩, type := type, pos := pos, after := after, guard := guard }).run E.P c.w = .ok (.value (.agg (a.eval x).cells)) c.w := by
   have aiG : Instr.fill (fun x => (([(0, 1, false)] : List (Nat × Nat × Bool)).toArray.map fun x => (x.1, x.2.1))[x]?) zv.cells [(0, a.eval x)] = some (a.eval x).cells := by
    have SM : (([(0, 1, false)] : List (Nat × Nat × Bool)).toArray.map fun x => (x.1, x.2.1))[0]? = some (0, 1) := by simp
    simp only [Instr.fill, SM]
    rw [if_neg (by simp [J2, DW])]
    have hz3 : (a.eval x).cells.toList.zipIdx = (a.eval x).cells.zipIdx.toList := by simp
    have h5 : (a.eval x).cells.zipIdx.foldl (fun cs (x : Value × Nat) => cs.setIfInBounds (0 + x.2) x.1) zv.cells = (a.eval x).cells := by
     rw [← Array.foldl_toList, ← hz3]; exact hl
    simp only [h5]
   simp only [execOp, Instr.build, zeroValue, typeInfo, program, Sem.run_bind, Sem.run, hi, hzv, Sem.run_pure, Result.andThen_ok, run_underlying hu, run_places ha]
   simp at aiG
   simp [aiG]
  unfold Oper.wp
  rw [jP]
  refine hK _ _ _ hk ?_
  exact m7 hf hG hn fM (tF.refl c) hI (show aJ c (.ag [aR σ.f x]) (.agg (a.eval x).cells) from ⟨(a.eval x).cells.toList, by simp, g1⟩) hd rfl (by simp [PS.put, hr]) fX
 ·exact h.elim
end
theorem W.al0 {E : Env} {n : Nat} {tl : Nat → Nat} {Q : PX → PS → Prop} {σ : PS} {id : Nat} {ops : List Oper} {y : Code} (i : Nat) {o o2 : Oper} (ho : ops = ops.take i ++ o :: o2 :: ops.drop (i + 2)) (hg : o.guard = none) (n4 : o2.guard = none)
  (h : ∀ K : PS → Prop, (∀ σ, W E n tl y Q σ → K σ) → go (aM E ops (ops.take i) (fun σ => EO E o (fun σ => X5 E o2 (aM E ops (ops.drop (i + 2)) K) σ) σ) σ)) : W E n tl (.seq (.region id ops.toArray false) y) Q σ := by
 refine W.seq ?_
 intro gK w0 S0 G a w Q' hR hQ
 simp only [eS, qJ, Bool.and_eq_true] at gK
 have hd : ∀ o ∈ ops, ∀ t, o.dst = some t → t < n := fun o ho t ht => by
  have := Array.all_eq_true_iff_forall_mem.1 gK.1 o (by simpa using ho)
  simpa [ht] using this
 refine wp_region_list ?_
 show wpList E.P ops.toArray Q' ops a w
 have h1 := h (fun σ => W E n tl y Q σ) fun _ h => h
 have tL : o ∈ ops := by rw [ho]; simp
 have ar2 : o2 ∈ ops := by rw [ho]; simp
 have := nQ (E := E) (w0 := w0) (S0 := S0) (m := n) (G := G) (ops := ops.toArray) (Q := Q') (l2 := o :: o2 :: ops.drop (i + 2)) (K := fun σ => EO E o (fun σ => X5 E o2 (aM E ops (ops.drop (i + 2)) (fun σ => W E n tl y Q σ)) σ) σ) (fun σ' a' w' hl lE => by
  unfold wpList
  rw [if_pos (by simp [Region.wanted, hg])]
  refine .inl (uD hl lE (hd o tL) fun σ2 a2 w2 hk hR2 => ?_)
  unfold wpList
  rw [if_pos (by simp [Region.wanted, n4])]
  refine .inl (RD hk hR2 (hd o2 ar2) fun σ3 a3 w3 XT hR3 => ?_)
  exact gV (E := E) (ops := ops.toArray) (fun σ4 a4 w4 hk4 hR4 => hQ .normal σ4 a4 w4 hk4 hR4) _ σ3 a3 w3 (fun o ho => hd o (List.mem_of_mem_drop ho)) XT hR3) (ops.take i) σ a w (fun o ho => hd o (List.mem_of_mem_take ho)) h1 hR
 rwa [← ho] at this
@[simp] theorem at3 {E : Env} {K : PS → Prop} {f : Nat → PV} {rows : Rows} {clk : Nat} {d : Option Tmp} {ty : TypeId} {pos : String} {af : Array Edge} {t : TypeId} {x : Operand} :
  X5 E ⟨d, .build t ⟨[(0, x)]⟩, ty, pos, af, none⟩ K ⟨f, rows, clk⟩ = aH (E.ty t = .struct [(0, 1, false)] (E.ty t).zero ∧ (E.ty t).zero.length = 1) (fN (bW (aR f x)) fun l => aH (l = [aR f x] ∧ gW rows [aR f x]) (K ⟨put f d (.ag [aR f x]), rows, clk⟩)) := by
 simp only [X5, aH, fN, gW, PS.put]
 apply propext
 constructor
 ·rintro ⟨h1, h2, h3, h4, h5⟩; exact ⟨⟨h1, h2⟩, _, h3, ⟨rfl, by simpa using h4⟩, h5⟩
 ·rintro ⟨⟨h1, h2⟩, l, h3, ⟨rfl, h4⟩, h5⟩; exact ⟨h1, h2, h3, by simpa using h4, h5⟩
end Pm
namespace Go.Proofs.YtelhfbikiccfkaaGreat
open Go Pm
theorem BZ.X6 {s s' n n' m : Nat} {a c : ZX} (b : BZ s n a) (b' : BZ s' n' c) (hm : ZX.N (a * c) ≤ m) : BZ (s + s' + n') m (a * c) := by
 have h := Bd.bL (by decide) b' b
 rw [xB] at h
 exact ⟨hm, fun d hd => Nat.le_trans (h.sz d hd) (by omega)⟩
theorem acy {f : ZX} (hf : f ≠ 0) (bf : BZ 3 3 f) : ∀ k, 1 ≤ k → BZ (6 * k) (2 * k + 1) (f ^ k) ∧ f ^ k ≠ 0 ∧ ZX.N (f ^ k) = k * (ZX.N f - 1) + 1
 | 0, h => by omega
 | 1, _ => by
  have e : f ^ 1 = f := by rw [ZX.pow_succ', ZX.dH]; grind
  rw [e]
  have := ZX.aC.1 hf
  exact ⟨bf.mono (by omega) (by omega), hf, by omega⟩
 | k + 2, _ => by
  obtain ⟨h1, h2, h3⟩ := acy hf bf (k + 1) (by omega)
  have hN := ZX.aC.1 hf
  have e : ZX.N (f ^ (k + 2)) = (k + 2) * (ZX.N f - 1) + 1 := by
   rw [ZX.pow_succ', ZX.eI h2 hf, h3, Nat.add_mul, Nat.add_mul]; omega
  have hl : ZX.N f ≤ 3 := bf.N
  refine ⟨?_, ZX.eB h2 hf, e⟩
  have h4 := BZ.X6 h1 bf (m := 2 * (k + 2) + 1) (by
   rw [← ZX.pow_succ', e]
   have : (k + 2) * (ZX.N f - 1) ≤ (k + 2) * 2 := Nat.mul_le_mul_left _ (by omega)
   omega)
  rw [ZX.pow_succ']
  exact h4.mono (by omega) (Nat.le_refl _)
theorem RE {x : List Int} (hx : x ≠ []) (hl : x.length ≤ 3) (hc : ∀ c ∈ x, c.natAbs < 8) (tC : x.getLast hx ≠ 0) : BZ 3 3 (ZX.of x) ∧ (ZX.of x).l = x ∧ ZX.of x ≠ 0 := by
 have h1 : aN x = x := by
  obtain ⟨y, z, rfl⟩ : ∃ y z, x = y ++ [z] := ⟨x.dropLast, x.getLast hx, (List.dropLast_concat_getLast hx).symm⟩
  exact iF (by simpa using tC) y
 have h2 : (ZX.of x).l = x := h1
 refine ⟨⟨by rw [h2]; exact hl, fun c QU => ?_⟩, h2, ZX.aC.2 ?_⟩
 ·rw [h2] at QU
  exact dD (by decide) (by have := hc c QU; show _ < 8; exact this)
 ·show 0 < (ZX.of x).l.length
  rw [h2]; exact List.length_pos_iff.2 hx
def gN (l : List Int) (i : Nat) : List Int :=
 if (nth l i).tmod 5 = 3 then [-(nth l i % 9 - 4), nth l (i + 2) % 3 - 1, nth l (i + 1) % 5 + 1] else [-(nth l i % 9 - 4), nth l (i + 1) % 5 + 1]
def rG (l : List Int) (i : Nat) : Nat := 1 + (nth l (i + 2) % 3).toNat
def wH (l : List Int) (most i : Nat) (p : ZX) : ZX := if most < ZX.N p - 1 + rG l i * (ZX.N (ZX.of (gN l i)) - 1) then p else p * ZX.of (gN l i) ^ rG l i
def dS (l : List Int) (most : Nat) : Nat → ZX
 | 0 => 1
 | j + 1 => wH l most (3 * j) (dS l most j)
def made (l : List Int) (most : Nat) : ZX := if (0 < l.length ∧ (nth l 0).tmod 7 = 6) then ZX.K (-3) * dS l most (min 6 (l.length / 3)) else dS l most (min 6 (l.length / 3))
theorem z9 (l : List Int) (i : Nat) : BZ 3 3 (ZX.of (gN l i)) ∧ (ZX.of (gN l i)).l = gN l i ∧ ZX.of (gN l i) ≠ 0 := by
 have h9 := Int.emod_nonneg (nth l i) (show (9 : Int) ≠ 0 by decide)
 have h9' := Int.emod_lt_of_pos (nth l i) (show (0 : Int) < 9 by decide)
 have h5 := Int.emod_nonneg (nth l (i + 1)) (show (5 : Int) ≠ 0 by decide)
 have h5' := Int.emod_lt_of_pos (nth l (i + 1)) (show (0 : Int) < 5 by decide)
 have h3 := Int.emod_nonneg (nth l (i + 2)) (show (3 : Int) ≠ 0 by decide)
 have h3' := Int.emod_lt_of_pos (nth l (i + 2)) (show (0 : Int) < 3 by decide)
 unfold gN
 split
 ·refine RE (by simp) (by simp) (fun c hc => ?_) (by simp; omega)
  simp only [List.mem_cons, List.not_mem_nil, or_false] at hc
  rcases hc with rfl | rfl | rfl <;> omega
 ·refine RE (by simp) (by simp) (fun c hc => ?_) (by simp; omega)
  simp only [List.mem_cons, List.not_mem_nil, or_false] at hc
  rcases hc with rfl | rfl <;> omega
theorem I0 (l : List Int) (i : Nat) : 1 ≤ rG l i ∧ rG l i ≤ 3 := by
 have h3 := Int.emod_nonneg (nth l (i + 2)) (show (3 : Int) ≠ 0 by decide)
 have h3' := Int.emod_lt_of_pos (nth l (i + 2)) (show (0 : Int) < 3 by decide)
 unfold rG; omega
theorem acz {l : List Int} {most i s : Nat} {p : ZX} (hp : p ≠ 0) (b : BZ s (most + 1) p) : wH l most i p ≠ 0 ∧ BZ (s + 25) (most + 1) (wH l most i p) := by
 obtain ⟨b1, b2, b3⟩ := z9 l i
 obtain ⟨e1, e2⟩ := I0 l i
 obtain ⟨h1, h2, h3⟩ := acy b3 b1 _ e1
 unfold wH
 split
 ·exact ⟨hp, b.mono (by omega) (Nat.le_refl _)⟩
 ·rename_i h
  have hN := ZX.aC.1 hp
  refine ⟨ZX.eB hp h2, (BZ.X6 b h1 (m := most + 1) (by rw [ZX.eI hp h2, h3]; omega)).mono (by omega) (Nat.le_refl _)⟩
theorem mT (l : List Int) (most : Nat) : ∀ j, dS l most j ≠ 0 ∧ BZ (1 + 25 * j) (most + 1) (dS l most j)
 | 0 => ⟨ZX.lY, by show (1 : ZX).l.length ≤ most + 1; exact Nat.succ_le_succ (Nat.zero_le _), fun c hc => by
  have h1 : (1 : ZX).l = [1] := by decide
  have Y1 : c ∈ (1 : ZX).l := hc
  rw [h1] at Y1
  simp at Y1; subst Y1
  exact dD (by decide) (by decide)⟩
 | j + 1 => by
  obtain ⟨h1, h2⟩ := mT l most j
  obtain ⟨h3, h4⟩ := acz (l := l) (i := 3 * j) h1 h2
  exact ⟨h3, h4.mono (by omega) (Nat.le_refl _)⟩
theorem AA (l : List Int) (most : Nat) : made l most ≠ 0 ∧ BZ 153 (most + 1) (made l most) := by
 obtain ⟨h1, h2⟩ := mT l most (min 6 (l.length / 3))
 unfold made
 split
 ·refine ⟨ZX.eB (ZX.kQ (by decide)) h1, ?_⟩
  rw [BZ, K_l (by decide)]
  exact ⟨by have := h2.len; simpa using this, fun c hc => by
   simp only [List.mem_map] at hc
   obtain ⟨d, hd, rfl⟩ := hc
   exact Nat.le_trans (b9 (by decide) (h2.sz d hd) (dD (k := 2) (by decide) (by decide))) (by omega)⟩
 ·exact ⟨h1, h2.mono (by omega) (Nat.le_refl _)⟩
theorem wI (l : List Int) (hl : l.length < 9223372036854775808) (hb : ∀ x ∈ l, -9223372036854775808 ≤ x ∧ x < 9223372036854775808) (most : Nat) (hm : most ≤ 100) : aG env.P 29 [aI aF l, .int .i64 most] (PI (made l most).l) := by
 obtain ⟨J, hJ⟩ : ∃ J, J = min 6 (l.length / 3) := ⟨_, rfl⟩
 have iR := rE
 have hmd : made l most = if (0 < l.length ∧ (nth l 0).tmod 7 = 6) then ZX.K (-3) * dS l most J else dS l most J := by rw [hJ]; rfl
 rw [hmd]
 have h0 : (1 : ZX).l = (dS l most 0).l := rfl
 rw [h0] at iR
 generalize hg0 : (dS l most 0).l = g0 at *
 refine bV [(0, aI aF l), (1, .int .i64 most)] Tryz.func29 ?_
 refine aA [0, 1] ?_
 refine aK [0, 1, 5] iR ?_
 refine aL [0, 1, 5, 6] ?_
 subst hg0
 refine W.block ?_
 refine W.bC (fun k σ => ∃ (i j : Nat) (rows : Pm.Rows) (clk : Nat), σ = ⟨fa [(0, aI aF l), (1, .int .i64 most), (5, PI (dS l most j).l), (6, .int .i64 i)], rows, clk⟩ ∧ i = 3 * j ∧ j + k = J) J ?_ ?_
 ·exact ⟨_, .refl, 0, 0, _, _, rfl, rfl, by omega⟩
 rintro k _ ⟨i, j, rows, clk, rfl, YX, hjk⟩
 refine W.seq ?_
 by_cases hj : j < J
 ·have a1 : (i : Int) + 2 < (l.length : Int) := by omega
  have a2 : (i : Int) < 18 := by omega
  refine W.dY (fun K hK => ?_)
  simp (disch := omega) [gw, a1, a2]
  refine W.lw [0, 1, 5, 6, 21] hK ?_; clear hK K; simp
  refine bE ?_ ?_ <;> intro h
  rotate_left
  ·cases h
  clear h
  obtain ⟨f1, f2, f3⟩ := z9 l i
  obtain ⟨e1, e2⟩ := I0 l i
  obtain ⟨p1, p2, p3⟩ := acy f3 f1 _ e1
  obtain ⟨m1, m2⟩ := mT l most j
  have hJ6 : J ≤ 6 := by omega
  have hms : dS l most (j + 1) = wH l most i (dS l most j) := by rw [YX]; rfl
  have w1 := gZ (nth l i) 9 (hb _ (bU (by omega))) (by decide) (by decide)
  have w2 := gZ (nth l (i + 1)) 5 (hb _ (bU (by omega))) (by decide) (by decide)
  have w3 := gZ (nth l (i + 2)) 3 (hb _ (bU (by omega))) (by decide) (by decide)
  have bi := hb _ (bU (show i < l.length by omega))
  have h9 := Int.emod_nonneg (nth l i) (show (9 : Int) ≠ 0 by decide)
  have h9' := Int.emod_lt_of_pos (nth l i) (show (0 : Int) < 9 by decide)
  have h5 := Int.emod_nonneg (nth l (i + 1)) (show (5 : Int) ≠ 0 by decide)
  have h5' := Int.emod_lt_of_pos (nth l (i + 1)) (show (0 : Int) < 5 by decide)
  have h3 := Int.emod_nonneg (nth l (i + 2)) (show (3 : Int) ≠ 0 by decide)
  have h3' := Int.emod_lt_of_pos (nth l (i + 2)) (show (0 : Int) < 3 by decide)
  have ar3 := F8 (a := ZX.of (gN l i)) (k := rG l i) (by omega) (fun r hr => by
   rcases Nat.eq_zero_or_pos r with h0 | h0
   ·subst h0
    have h1 : BZ 1 1 (1 : ZX) := (mT l 0 0).2
    exact kK _ _ _ _ _ _ h1 f1 (by decide)
   ·obtain ⟨q1, _, _⟩ := acy f3 f1 r h0
    exact kK _ _ _ _ _ _ q1 f1 (by show _ < 137438953472; omega))
  have hmul := kK (dS l most j).l (ZX.of (gN l i) ^ rG l i).l _ _ _ _ m2 p1 (by show _ < 137438953472; omega)
  have hpN : ZX.N (dS l most j) = (dS l most j).l.length := rfl
  have hfN : ZX.N (ZX.of (gN l i)) = (gN l i).length := by show (ZX.of (gN l i)).l.length = _; rw [f2]
  have mW : aN (gN l i) = gN l i := f2
  have X7 := RE (x := [-(nth l i % 9 - 4), nth l (i + 1) % 5 + 1]) (by simp) (by simp) (fun c hc => by
   simp only [List.mem_cons, List.not_mem_nil, or_false] at hc
   rcases hc with rfl | rfl <;> omega) (by simp; omega)
  have u0 : aN [-(nth l i % 9 - 4), nth l (i + 1) % 5 + 1] = [-(nth l i % 9 - 4), nth l (i + 1) % 5 + 1] := X7.2.1
  have of1 := vQ [-(nth l i % 9 - 4), nth l (i + 1) % 5 + 1] (by simp) (fun c hc => by
   simp only [List.mem_cons, List.not_mem_nil, or_false] at hc
   rcases hc with rfl | rfl <;> omega)
  rw [u0] at of1
  have of2 : (nth l i).tmod 5 = 3 → aG env.P 96 [.sl [[.int .i64 (-(nth l i % 9 - 4))], [.int .i64 (nth l (i + 2) % 3 - 1)], [.int .i64 (nth l (i + 1) % 5 + 1)]]] (PI (gN l i)) := fun h => by
   have hx : gN l i = [-(nth l i % 9 - 4), nth l (i + 2) % 3 - 1, nth l (i + 1) % 5 + 1] := by unfold gN; rw [if_pos h]
   have := vQ (gN l i) (by rw [hx]; simp) (fun c hc => by
    rw [hx] at hc
    simp only [List.mem_cons, List.not_mem_nil, or_false] at hc
    rcases hc with rfl | rfl | rfl <;> omega)
   rw [mW] at this
   rw [hx] at this ⊢
   exact this
  have aje : ¬ (nth l i).tmod 5 = 3 → gN l i = [-(nth l i % 9 - 4), nth l (i + 1) % 5 + 1] := fun h => by unfold gN; rw [if_neg h]
  replace of1 : aG env.P 96 [.sl [[.int .i64 (-(nth l i % 9 - 4))], [.int .i64 (nth l (i + 1) % 5 + 1)]]] (PI [-(nth l i % 9 - 4), nth l (i + 1) % 5 + 1]) := of1
  have aBU : (gN l i).length = 2 ∨ (gN l i).length = 3 := by unfold gN; split <;> simp
  have XT : (rG l i : Int) = 1 + nth l (i + 2) % 3 := by unfold rG; omega
  have hP6 : rG l i * (ZX.N (ZX.of (gN l i)) - 1) ≤ 6 := by
   have : rG l i * (ZX.N (ZX.of (gN l i)) - 1) ≤ 3 * 2 := Nat.mul_le_mul e2 (by rw [hfN]; omega)
   omega
  have hP : (1 + nth l (i + 2) % 3) * (((gN l i).length : Int) - 1) = ((rG l i * (ZX.N (ZX.of (gN l i)) - 1) : Nat) : Int) := by
   rw [hfN, Int.natCast_mul, XT]
   congr 1
   omega
  have SM : 0 < (dS l most j).l.length ∧ (dS l most j).l.length ≤ most + 1 := ⟨ZX.aC.1 m1, m2.N⟩
  have agv : dS l most (j + 1) = if most < (dS l most j).l.length - 1 + rG l i * (ZX.N (ZX.of (gN l i)) - 1) then dS l most j else dS l most j * ZX.of (gN l i) ^ rG l i := by rw [hms, wH, hpN]
  rw [← XT] at hP
  rw [f2] at ar3
  clear hms p1 p2 p3 m1 m2 f1 f2 f3 X7 u0 mW hpN hfN
  generalize rG l i * (ZX.N (ZX.of (gN l i)) - 1) = PP at *
  generalize hK : rG l i = kk at *
  generalize hpm : bL (dS l most j).l (ZX.of (gN l i) ^ kk).l = pm at *
  have aw5 : (dS l most j * ZX.of (gN l i) ^ kk).l = pm := hpm
  generalize ZX.of (gN l i) ^ kk = Fk at *
  generalize hF : gN l i = F at *
  generalize hp0 : dS l most j = P0 at *
  have ei1 : ((i : Int) + 1).toNat = i + 1 := by omega
  have ei2 : ((i : Int) + 2).toNat = i + 2 := by omega
  refine W.skip ?_
  refine W.eT (fun σ => ∃ (rows : Pm.Rows) (clk : Nat), σ = ⟨fa [(0, aI aF l), (1, .int .i64 most), (5, PI (dS l most (j + 1)).l), (6, .int .i64 i)], rows, clk⟩) ?_ ?_
  ·refine W.sd ?_
   simp (disch := omega) [gw, ei1, ei2]
   refine aD w1 ?_
   simp (disch := omega) [gw, ei1, ei2]
   refine aD w2 ?_
   simp (disch := omega) [gw, ei1, ei2]
   refine cI [0, 1, 5, 6, 7, 8, 9] w3 ?_
   refine aK [0, 1, 5, 6, 7, 8, 9, 10] of1 ?_
   refine W.gS (fun σ => ∃ (rows : Pm.Rows) (clk : Nat), σ = ⟨fa [(0, aI aF l), (1, .int .i64 most), (5, PI P0.l), (6, .int .i64 i), (9, .int .i64 kk), (10, PI F)], rows, clk⟩) ?_ ?_
   ·refine aA [0, 1, 5, 6, 7, 8, 9, 10, 54] ?_
    refine bE ?_ ?_ <;> intro h
    ·have h : (nth l i).tmod 5 = 3 := by simpa using h
     refine W.b8 (fun K hK => ?_)
     simp (disch := omega) [gw, ei2]
     refine bZ w3 ?_
     refine bZ (of2 h) ?_
     exact hK _ ⟨_, aB _ [0, 1, 5, 6, 9, 10], _, _, by rw [XT]; rfl⟩
    ·have h : ¬ (nth l i).tmod 5 = 3 := by simpa using h
     rw [aje h]
     refine W.skip ?_
     exact ⟨_, aB _ [0, 1, 5, 6, 9, 10], _, _, by rw [XT]; rfl⟩
   rintro _ ⟨rows, clk, rfl⟩
   refine W.seq ?_
   refine W.sr ?_
   simp (disch := omega) [gw, hP]
   refine bH [0, 1, 5, 6, 9, 10, 77] ?_
   refine bE ?_ ?_ <;> intro h
   ·have h : most < P0.l.length - 1 + PP := by simp at h; omega
    rw [if_pos h] at agv
    rw [agv]
    refine fB ?_
    exact ⟨_, aB _ [0, 1, 5, 6], _, _, rfl⟩
   ·have h : ¬ most < P0.l.length - 1 + PP := by simp at h; omega
    rw [if_neg h] at agv
    rw [agv, aw5]
    refine W.skip ?_
    refine W.b8 (fun K hK => ?_)
    simp (disch := omega) [gw]
    refine bZ ar3 ?_
    refine bZ hmul ?_
    exact hK _ ⟨_, aB _ [0, 1, 5, 6], _, _, rfl⟩
  rintro _ ⟨rows, clk, rfl⟩
  refine W.b8 (fun K hK => ?_); simp (disch := omega) [gw]
  refine hK _ ⟨k - 1, _, aB _ [0, 1, 5, 6], by omega, i + 3, j + 1, _, _, rfl, by omega, by omega⟩
 ·have hjJ : j = J := by omega
  subst hjJ
  refine W.gM (fun σ => ∃ (rows : Pm.Rows) (clk : Nat), σ = ⟨fa [(0, aI aF l), (5, PI (dS l most j).l), (21, .bool false)], rows, clk⟩) (fun K hK => ?_) ?_
  ·by_cases a1 : (i : Int) + 2 < (l.length : Int)
   ·have a2 : ¬ (i : Int) < 18 := by omega
    simp (disch := omega) [gw, a1, a2]
    exact hK _ _ (aB _ [0, 5, 21]) ⟨_, _, rfl⟩
   ·simp (disch := omega) [gw, a1]
    exact hK _ _ (aB _ [0, 5, 21]) ⟨_, _, rfl⟩
  rintro _ ⟨rows, clk, rfl⟩
  refine bE ?_ ?_ <;> intro h
  ·cases h
  clear h
  have of3 := vQ [-3] (by decide) (by decide)
  replace of3 : aG env.P 96 [.sl [[.int .i64 (-3)]]] (PI [-3]) := of3
  obtain ⟨m1, m2⟩ := mT l most j
  have hsc := L4 (dS l most j).l (-3) (m2.yy (by show _ ≤ 137438953472; omega) (by omega)) (by show sz 2 (-3) ≤ 137438953472; exact Nat.le_trans (dD (k := 2) (by decide) (by decide)) (by decide))
  have hsl : aX (dS l most j).l (-3) = (ZX.K (-3) * dS l most j).l := Cn.ext (Cn.aX _ _) (ZX.K (-3) * dS l most j).c fun t => by rw [cC, ZX.dM, ZX.sP, Int.mul_comm]
  rw [hsl] at hsc
  refine fB ?_
  refine W.gS (fun σ => ∃ (rows : Pm.Rows) (clk : Nat), σ = ⟨fa [(5, PI (if (0 < l.length ∧ (nth l 0).tmod 7 = 6) then ZX.K (-3) * dS l most j else dS l most j).l)], rows, clk⟩) ?_ ?_
  ·by_cases u1 : 0 < l.length
   ·by_cases h7 : (nth l 0).tmod 7 = 6
    ·rw [if_pos ⟨u1, h7⟩]
     have b7 : ((nth l 0).tmod 7 == 6) = true := by simpa using h7
     refine W.sr ?_
     simp (disch := omega) [gw, u1, b7, h7]
     refine bH [5, 92] ?_
     refine bE ?_ ?_ <;> intro h
     ·refine W.b8 (fun K hK => ?_)
      simp (disch := omega) [gw]
      refine bZ of3 ?_
      refine bZ hsc ?_
      exact hK _ ⟨_, aB _ [5], _, _, rfl⟩
     ·cases h
    ·rw [if_neg (fun h => h7 h.2)]
     have b7 : ((nth l 0).tmod 7 == 6) = false := by simpa using h7
     refine W.sr ?_
     simp (disch := omega) [gw, u1, b7, h7]
     refine bH [5, 92] ?_
     refine bE ?_ ?_ <;> intro h
     ·cases h
     ·refine W.skip ?_
      exact ⟨_, aB _ [5], _, _, rfl⟩
   ·rw [if_neg (fun h => u1 h.1)]
    have SU : l.length = 0 := by omega
    refine W.sr ?_
    simp (disch := omega) [gw, SU]
    refine bH [5, 92] ?_
    refine bE ?_ ?_ <;> intro h
    ·cases h
    ·refine W.skip ?_
     exact ⟨_, aB _ [5], _, _, rfl⟩
  rintro _ ⟨rows, clk, rfl⟩
  refine aA [4] ?_
  exact bT
theorem BZ.z {h n : Nat} {a : ZX} (b : BZ h n a) (hh : h < 1099511627776) : ∀ c ∈ a.l, Z c := fun c hc => Nat.lt_of_le_of_lt (b.sz c hc) hh
theorem pL {h n : Nat} {a : ZX} (b : BZ h n a) (hh : h < 1099511627776) (hn : n < 1099511627776) : aG env.P 33 [PI a.l] (Po a.l) := af3 a.l (b.z hh) (Nat.lt_of_le_of_lt b.len hn)
theorem ar5 {a b : ZX} (ha : a ≠ 0) (hb : Nf b) (h : ∀ p, ZX.nK p → ZX.mu p b = min (ZX.mu p a) 1) : sq a = b := by
 have nA := fF ha
 have e : sq a = sz' (nf a) := by
  unfold sq
  split
  ·rename_i h2
   have h3 : nf a = 1 := nA.N1 (by rw [vX]; exact h2)
   rw [h3]
   show 1 = wz 1 0
   rw [wz]
   show 1 = qz 1 (gd 1)
   rw [ab9, Nf.one.self]
  ·rfl
 rw [e]
 exact Nf.rD (aca nA) hb fun p hp => by rw [acb nA hp, CT hp ha, h p hp]
theorem C8 {a : ZX} {n : Nat} (hn : a.l.length ≤ n) (hc : ∀ c ∈ a.l, c.natAbs < 8) : BZ 3 n a := ⟨hn, fun c h => dD (by decide) (by have := hc c h; show _ < 8; exact this)⟩
theorem X8 {a : ZX} (b : BZ 3 5 a) : pT 3 5 a := ⟨b, by decide, by decide, by decide⟩
end Go.Proofs.YtelhfbikiccfkaaGreat
namespace Go.Proofs.YtelhfbikiccfkaaGreat
open Go Pm
open ZX hiding N W
theorem UU {a : ZX} (h : 2 ≤ ZX.N a) : nth (bI a).l (ZX.N a - 2) = lead a.l * ((ZX.N a - 1 : Nat) : Int) := by
 have h1 : a.l.length = ZX.N a := rfl
 have h2 : nth (bI a).l (ZX.N a - 2) = nth a.l (ZX.N a - 1) * ((ZX.N a - 1 : Nat) : Int) := by
  show nth (aN (xG a.l)) _ = _
  rw [iS, xG, cQ (by simp; omega)]
  simp only [List.getElem_map, List.getElem_range]
  rw [show ZX.N a - 2 + 1 = ZX.N a - 1 by omega]
 rw [h2, lead, h1]
theorem acA {a : ZX} (h : 2 ≤ ZX.N a) : ZX.N (bI a) = ZX.N a - 1 := by
 have h1 := lN a
 have h2 := UU h
 have hl := cK a.c (show 0 < a.l.length from by have : a.l.length = ZX.N a := rfl; omega)
 have h3 : nth (bI a).l (ZX.N a - 2) ≠ 0 := by rw [h2]; exact Int.mul_ne_zero hl (by omega)
 rcases Nat.lt_or_ge (ZX.N a - 2) (bI a).l.length with h4 | h4
 ·have : ZX.N (bI a) = (bI a).l.length := rfl
  omega
 ·exact absurd (gX h4) h3
theorem acB {a : ZX} (h : 2 ≤ ZX.N a) : lead (bI a).l = lead a.l * ((ZX.N a - 1 : Nat) : Int) := by
 rw [← UU h, lead, show (bI a).l.length = ZX.N (bI a) from rfl, acA h, show ZX.N a - 1 - 1 = ZX.N a - 2 by omega]
theorem X9 {a : ZX} (h : ZX.N a ≤ 1) : bI a = 0 := by
 refine Classical.byContradiction fun h0 => ?_
 have h1 := ZX.aC.1 h0
 have := lN a
 omega
theorem agw {f : ZX} (hf : Nf f) : qZ (bI f).l = (pV (bI f)).l := by
 have h : ¬ lead (bI f).l < 0 := by
  rcases Nat.lt_or_ge (ZX.N f) 2 with h2 | h2
  ·rw [X9 (by omega)]; decide
  ·rw [acB h2]
   have := Int.mul_nonneg (Int.le_of_lt hf.l) (show (0 : Int) ≤ ((ZX.N f - 1 : Nat) : Int) by omega)
   omega
 show _ = jM (bI f).l
 rw [MD, if_neg h]
theorem I3 {α : Type} {g : α → List PV} {l : List α} {s n : Nat} {f : ZX} (hS : aG env.P 74 [aI g l] (Po f.l)) (h : Ch s n f) (hf : Nf f) : aG env.P 73 [aI g l] (.fH [CH (aU f), .int .i64 0]) := by
 have hn := h.hn
 have hp := h.pot
 have hs := hp.le
 have bd : BZ (s + 5) n (bI f) := h.bz.bI (by omega)
 have d1 := pH h.bz (by omega) (by omega)
 have d2 := tB ((bI f).l.map tA) (bd.EK (by omega) (by omega)) (s := s + 5) (n := n) (by rw [cE]; exact EN bd) (by omega) (by omega)
 rw [y5, ← jH, agw hf] at d2
 have b2 : BZ (s + 5) n (pV (bI f)) := iT bd
 have b1 : BZ (s + 5) n f := h.bz.mono (by omega) (Nat.le_refl _)
 have CG : ZX.N (pV (bI f)) ≤ ZX.N f := Nat.le_trans (lM _) (Nat.le_trans (lN f) (by omega))
 have hc : aU f = f :: uE (ZX.N f) f (pV (bI f)) := rfl
 rw [C2 CG (Nat.le_refl _)] at hc
 have hf0 : f.l.length ≠ 0 := by have := ZX.aC.1 hf.ne; exact Nat.pos_iff_ne_zero.1 this
 have hf1 : ¬ f.l = [] := fun h0 => hf0 (by rw [h0]; rfl)
 generalize hC : aU f = C at *
 generalize pV (bI f) = g0 at *
 generalize kP (bI f).l = pc at *
 generalize (bI f).l = dl at *
 refine bV [(0, aI g l)] Tryz.func73 ?_
 refine aA [0] ?_
 refine aK [4] hS ?_
 refine aL [4, 14] ?_
 refine bE ?_ ?_ <;> intro h
 ·simp at h; exact absurd h hf1
 refine W.skip ?_
 refine W.al0 1 rfl rfl rfl (fun K hK => ?_)
 simp (disch := omega) [gw]
 refine W.lw [4, 5] hK ?_; clear hK K; simp
 refine iU ?_
 refine bZ d1 ?_
 refine cI [4, 5, 7] d2 ?_
 refine W.seq ?_
 refine W.block ?_
 refine W.bC (fun k σ => ∃ (L : List ZX) (x y : ZX) (i ver v18 e18 s : Nat) (rows : Pm.Rows) (clk : Nat), σ = ⟨fa [(4, Po x.l), (5, .ptr 18 v18 0 0), (7, Po y.l)], rows, clk⟩ ∧ rows 16 = some ⟨ver, 24, 1, emap zp L⟩ ∧ rows 18 = some ⟨v18, e18, 1, [[.own 16 ver 0 (i + 1)]]⟩ ∧ L.length = i + 1 ∧
  L ++ uE k x y = C ∧ k = ZX.N y ∧ BZ s n x ∧ BZ s n y ∧ zK 4500000000 n s x y ∧ i + ZX.N y ≤ 20) (ZX.N g0) ?_ ?_
 ·exact ⟨_, .refl, [f], f, g0, 0, _, _, _, s + 5, _, _, rfl, by simp [emap]; (first | exact rfl | exact ⟨rfl, rfl⟩), by simp; (first | exact rfl | exact ⟨rfl, rfl⟩ | exact ⟨rfl, rfl, rfl⟩), rfl, hc.symm, rfl, b1, b2, hp, by have := b2.N; omega⟩
 rintro k _ ⟨L, x, y, i, ver, v18, e18, s, rows, clk, rfl, zM, al1, hL, QU, rfl, bx, r8, hp, hiN⟩
 have hs := hp.le
 have hlx := bx.len
 have hly := r8.len
 have hLl : (emap zp L).length = i + 1 := by simp [emap, hL]
 refine aL [4, 5, 7, 27] ?_
 refine bE ?_ ?_ <;> intro h
 ·have hy : y ≠ 0 := ZX.aC.2 (by show 0 < y.l.length; simp at h; omega)
  have hR := MB (x.l.map tA) (y.l.map tA) (bx.EK (by omega) (by omega)) (r8.EK (by omega) (by omega)) (s := s) (s' := s) (N := n) (by rw [cE]; exact EN bx) (by rw [cE]; exact EN r8) (by
   have : n * (s + n + 1) ≤ 20 * 4500000000 := Nat.mul_le_mul hn hs
   omega)
  rw [y5, y5, if_neg (tZ hy), ← jH, ← jH] at hR
  have br := UJ bx r8 hy
  have aiE : (ZX.N x + 1 - ZX.N y) * (s + n + 1) ≤ 22 * 4500000000 := Nat.mul_le_mul (by have : ZX.N x = x.l.length := rfl; omega) (by omega)
  have hrz : L9 x.l y.l = (pV (rz x y)).l := by
   obtain ⟨P3, hN, _⟩ := sA (a := x) hy
   obtain ⟨m, q, hm, e⟩ := aco y.c (ZX.aC.1 hy) (x.l.length + 1) x.l x.c (by omega)
   rw [← P3] at e
   exact acp x.c y.c (ZX.aC.1 hy) (rz x y).c hN hm e
  rw [hrz] at hR
  have hNg := xD (x := (pV (rz x y)).l) (PB.of (EN (iT br)) (by omega) (by omega))
  have e3 : gH (pV (rz x y)).l = (nx x y).l := rfl
  rw [e3] at hNg
  have CG := XX (a := x) hy
  have hp2 := hp.step CG
  have bn := UK bx r8 hy
  have hch : L ++ [y] ++ uE (ZX.N (nx x y)) y (nx x y) = C := by
   rw [← QU]
   obtain ⟨j, hj⟩ : ∃ j, ZX.N y = j + 1 := ⟨ZX.N y - 1, by have := ZX.aC.1 hy; have : ZX.N y = y.l.length := rfl; omega⟩
   rw [hj, uE, if_neg (by omega), C2 (k := j) (j := ZX.N (nx x y)) (by omega) (Nat.le_refl _)]
   simp
  generalize (pV (rz x y)).l = pl at *
  generalize hnx : nx x y = nn at *
  refine W.skip ?_
  refine W.block ?_
  refine W.sr ?_
  simp (disch := omega) [gw, zM, al1, hLl]
  refine bH [4, 5, 7] ?_
  refine aK [5, 7, 8] hR ?_
  refine W.b8 (fun K hK => ?_)
  simp (disch := omega) [gw]
  refine bZ hNg ?_
  refine hK _ ⟨ZX.N nn, _, aB _ [4, 5, 7], CG, L ++ [y], y, nn, i + 1, _, v18, e18, _, _, _, rfl, by simp; first | exact rfl | skip, by simp; first | exact rfl | skip, by simp [hL], hch, rfl, r8.mono (by omega) (Nat.le_refl _), bn, hp2, by omega⟩
 ·have hy : y = 0 := by
   refine Classical.byContradiction fun h0 => ?_
   have h1 := ZX.aC.1 h0
   have h2 : ZX.N y = y.l.length := rfl
   simp at h; rw [h2, h] at h1; simp at h1
  subst hy
  rw [j2, List.append_nil] at QU
  subst QU
  have wR : List.take (i + 1) L = L := List.take_of_length_le (by omega)
  refine fB ?_
  refine W.HQ 16 (by rw [zM]; simp) (fun K hK => ?_)
  simp [zM]
  refine hK _ ?_
  have ar7 : EI rows 16 18 = some ⟨v18, e18, 1, [[aI zp L]]⟩ := by
   simp [al1, zM, hLl, wR]
  clear zM al1
  generalize EI rows 16 = vK at *
  refine aA [2, 3] ?_
  refine W.ret ?_
  simp [go, ar7]
theorem acC {n : Nat} (hn : n ≤ 20) : ∀ (j s : Nat) (x g : ZX), BZ s n x → BZ s n g → zK 4500000000 n s x g → ∀ p ∈ uE j x g, BZ 4500000000 n p
 | 0, _, _, _, _, _, _, p, hp => by cases hp
 | j + 1, s, x, g, bx, bg, hP, p, hp => by
  have hs := hP.le
  rw [uE] at hp
  split at hp
  ·cases hp
  ·rename_i h0
   have h0' : g ≠ 0 := ZX.aC.2 (Nat.pos_of_ne_zero h0)
   rcases List.mem_cons.1 hp with rfl | hp
   ·exact bg.mono (by omega) (Nat.le_refl _)
   ·exact acC hn j _ g (nx x g) (bg.mono (by omega) (Nat.le_refl _)) (UK bx bg h0') (hP.step (XX h0')) p hp
theorem UW : ∀ (j : Nat) (x g : ZX), (uE j x g).length ≤ j
 | 0, _, _ => Nat.le_refl _
 | j + 1, x, g => by
  rw [uE]
  split
  ·simp
  ·simp only [List.length_cons]; have := UW j g (nx x g); omega
theorem Ch.all {s n : Nat} {f : ZX} (h : Ch s n f) : (∀ p ∈ aU f, BZ 4500000000 n p) ∧ (aU f).length ≤ 21 := by
 have hp := h.pot
 have hs := hp.le
 have hn := h.hn
 refine ⟨fun p hq => ?_, ?_⟩
 ·rcases List.mem_cons.1 hq with rfl | hq
  ·exact h.bz.mono (by omega) (Nat.le_refl _)
  ·exact acC hn _ _ _ _ (h.bz.mono (by omega) (Nat.le_refl _)) (iT (h.bz.bI (by omega))) hp p hq
 ·have := UW (ZX.N f) f (pV (bI f))
  have h2 := h.bz.N
  show (f :: uE (ZX.N f) f (pV (bI f))).length ≤ 21
  simp only [List.length_cons]; omega
theorem agx {a u v : ZX} {c : Int} (na : Nf a) (hc : c ≠ 0) (h : u * a + v * bI a = K c) : sq a = a := ar5 na.ne na fun p hp => by
 have hm : mu p a ≤ 1 := by
  rcases Nat.lt_or_ge (mu p a) 2 with h1 | h1
  ·omega
  ·exfalso
   obtain ⟨m, hmm⟩ : ∃ m, mu p a = m + 1 := ⟨mu p a - 1, by omega⟩
   obtain ⟨_, h2⟩ := xI hp na.ne hmm
   have d1 : dv p a := by have := (j0 hp na.ne).1 (show 1 ≤ mu p a by omega); rwa [show p ^ 1 = p by rw [pow_succ', dH]; grind] at this
   have hd : bI a ≠ 0 := fun h0 => by rw [h0] at h2; have : mu p (0 : ZX) = m := h2; have h9 := (xI hp na.ne hmm).1; exact h9 h0
   have d2 : dv p (bI a) := by have := (j0 hp hd).1 (show 1 ≤ mu p (bI a) by omega); rwa [show p ^ 1 = p by rw [pow_succ', dH]; grind] at this
   have d3 : dv p (K c) := by rw [← h]; exact (d1.mul_left u).add (d2.mul_left v)
   have h3 := d3.lZ (kQ hc)
   have h4 := hp.deg
   rw [T0 hc] at h3
   omega
 omega
theorem c7 (q : Rat) : dE q.num q.den = q := by
 rw [dE, if_neg (by have := q.den_nz; omega)]
 exact Rat.num_divInt_den q
theorem acD (n d : Int) : (sml n d).num.natAbs ≤ 30 ∧ ((sml n d).den : Int).natAbs ≤ 6 := by
 have h1 := Int.emod_nonneg n (show (61 : Int) ≠ 0 by decide)
 have h2 := Int.emod_lt_of_pos n (show (0 : Int) < 61 by decide)
 have h3 := Int.emod_nonneg d (show (6 : Int) ≠ 0 by decide)
 have h4 := Int.emod_lt_of_pos d (show (0 : Int) < 6 by decide)
 unfold sml
 rw [pD _ _ (by omega), pE _ _ (by omega)]
 rw [if_neg (by omega), if_neg (by omega)]
 refine ⟨Nat.le_trans (Int.natAbs_ediv_le_natAbs _ _) (by omega), Nat.le_trans (Int.natAbs_ediv_le_natAbs _ _) (by omega)⟩
structure SQ (u : Nat) (q : Rat) : Prop where
 n2 : sz 2 q.num ≤ u
 d2 : sz 2 (q.den : Int) ≤ u
 hu : 1 ≤ u
theorem SQ.nL {u : Nat} {q : Rat} (h : SQ u q) : sz LL q.num ≤ u := Nat.le_trans (CW _) h.n2
theorem SQ.dL {u : Nat} {q : Rat} (h : SQ u q) : sz LL (q.den : Int) ≤ u := Nat.le_trans (CW _) h.d2
theorem acE (n d : Int) : SQ 5 (sml n d) := by
 obtain ⟨h1, h2⟩ := acD n d
 exact ⟨mS (by omega), mS (by omega), by decide⟩
section
variable {c : List ZX} {n u : Nat} {q : Rat} (hb : ∀ p ∈ c, BZ 4500000000 n p) (hn : n ≤ 20) (hl : c.length ≤ 21) (hq : SQ u q) (hu : u ≤ 1000000000)
include hb hn hl hq hu
theorem acF : aG env.P 164 [aI zq c, R2 q.num q.den] (.int .i64 (vr (nS c q.num q.den))) := MZ (by omega) fun p hp => by
 have hmul : n * (u + 1) ≤ 20 * (u + 1) := Nat.mul_le_mul_right _ hn
 exact sB (hb p hp) hq.n2 hq.d2 hq.hu (by omega) (by show _ < 137438953472; omega)
theorem acG : aG env.P 178 [CH c, T2 q.num q.den] (.int .i64 (vr (nS c q.num q.den))) := RA (by omega) fun p hp => by
 have hmul : n * (u + 1) ≤ 20 * (u + 1) := Nat.mul_le_mul_right _ hn
 exact xM (EN (hb p hp)) p.c hq.nL hq.dL hq.hu (by omega) (by omega) (by omega) (c7 q) ⟨hq.nL, hq.dL⟩
end
theorem pbs {c : List ZX} {n : Nat} (hb : ∀ p ∈ c, BZ 4500000000 n p) (hn : n ≤ 20) : ∀ p ∈ c, PB p.l := fun p hp => (hb p hp).pb (by decide) (by omega)
theorem agy : (PV.ag [.bool false, .sl [], .bool false, .sl []]) = T2 0 0 := rfl
structure MK (a : ZX) (c : List ZX) : Prop where
 to : aG env.P 33 [PI a.l] (Po a.l)
 new : aG env.P 73 [Po a.l] (.fH [CH c, .int .i64 0])
 chain : aG env.P 85 [PI a.l] (aI zq c)
 bd : ∀ p ∈ c, BZ 4500000000 20 p
 len : c.length ≤ 21
theorem MK.of {s n : Nat} {a : ZX} (h : pT s n a) (h0 : a ≠ 0) (uC : 1 ≤ n) (h1 : 1 ≤ s) : MK a (aU (sq a)) := by
 have hC := h.ch h0 uC
 obtain ⟨hb, hl⟩ := hC.all
 have hqb := h.pU
 have hs : s < 1099511627776 := by unfold qb at hqb; omega
 have hn := h.hn
 exact ⟨pL h.bz hs (by omega), I3 (uA h) hC (zA h0).1, pK h h0 uC h1, fun p hp => (hb p hp).mono (Nat.le_refl _) hn, hl⟩
theorem nT (a b : Nat) : (2 : Rat) ^ (a + b) = 2 ^ a * 2 ^ b := by
 induction b with
 | zero => simp
 | succ b ih => rw [← Nat.add_assoc, Rat.pow_succ, Rat.pow_succ, ih]; grind
theorem two_pow_pos (a : Nat) : (0 : Rat) < 2 ^ a := Rat.pow_pos (by decide)
theorem nU : ∀ a : Nat, (1 : Rat) ≤ 2 ^ a
 | 0 => by simp
 | a + 1 => by
  have := nU a
  rw [Rat.pow_succ]; grind
theorem kW {a b : Nat} (h : a ≤ b) : (2 : Rat) ^ a ≤ 2 ^ b := by
 obtain ⟨c, rfl⟩ := Nat.exists_eq_add_of_le h
 rw [nT]
 have h1 := nU c
 have h2 := Rat.mul_le_mul_of_nonneg_left h1 (Rat.le_of_lt (two_pow_pos a))
 grind
theorem M4 {c : Int} {s : Nat} (h : c.natAbs < 2 ^ s) : Ab (c : Rat) (2 ^ s) := by
 have h1 : ((2 ^ s : Int) : Rat) = 2 ^ s := by rw [Rat.intCast_pow]; rfl
 have h2 : (2 ^ s : Int) = ((2 ^ s : Nat) : Int) := by rw [Int.natCast_pow]; rfl
 constructor
 ·rw [← h1, ← Rat.intCast_neg]
  exact Rat.intCast_le_intCast.2 (by omega)
 ·rw [← h1]
  exact Rat.intCast_le_intCast.2 (by omega)
theorem aiH {c : Int} {s : Nat} (h : sz 2 c ≤ s) : Ab (c : Rat) (2 ^ s) :=
 M4 (Nat.lt_of_lt_of_le (kB (b := 2) (by decide) c) (Nat.pow_le_pow_right (by decide) h))
theorem BZ.ab {s n : Nat} {a : ZX} (h : BZ s n a) : ∀ c ∈ a.l, Ab (c : Rat) (2 ^ s) := fun c hc => aiH (h.sz c hc)
theorem I4 (s β : Nat) : ∀ k, wW (2 ^ s) (2 ^ β) k = 2 ^ (s + k * (β + 2))
 | 0 => by simp [wW]
 | k + 1 => by
  rw [wW, I4 s β k, show s + (k + 1) * (β + 2) = s + k * (β + 2) + β + 1 + 1 by rw [Nat.add_mul]; omega, Rat.pow_succ, Rat.pow_succ, nT _ β]
  grind
theorem BZ.aw8 {s n β : Nat} {a : ZX} (h : BZ s n a) {t : Rat} (ht : Ab t (2 ^ β)) : Ab (e t a) (2 ^ (s + n * (β + 2))) := by
 have h1 := UO (S := 2 ^ s) (B := 2 ^ β) (Rat.le_of_lt (two_pow_pos s)) (nU β) ht a.l h.ab
 rw [I4] at h1
 exact h1.mono (kW (by have := Nat.mul_le_mul_right (β + 2) h.len; omega))
theorem UX {s' N : Nat} {y : List Int} (r8 : Bd 2 s' N y) (cy : Cn y) (hy : 0 < y.length) : ∀ (n j s : Nat) (x : List Int), Cn x → x.length < n → Bd 2 s N x → x.length + 1 ≤ y.length + j →
  ∃ (m : Int) (q : List Int), 0 < m ∧ sz 2 m ≤ j * s' + 1 ∧ Bd 2 (s + j * (2 * s' + N + 2)) N q ∧ ∀ t, m * V t x = V t q * V t y + V t (rq y n x)
 | 0, j, s, x, _, h, _, _ => by omega
 | n + 1, j, s, x, cx, h, bx, hj => by
  rw [rq]
  split
  ·exact ⟨1, [], by decide, Nat.le_trans (dD (k := 1) (by decide) (by decide)) (by omega), ⟨by simp, fun c hc => by cases hc⟩, fun t => by simp [V]⟩
  ·rename_i h1
   obtain ⟨j, rfl⟩ : ∃ i, j = i + 1 := ⟨j - 1, by omega⟩
   have hl := r9 hy (show y.length ≤ x.length by omega)
   have hb := Q4 r8 bx hy (show y.length ≤ x.length by omega)
   obtain ⟨m, q, hm, hms, hq, h4⟩ := UX r8 cy hy n j _ (UG y x) (Cn.eZ _ _) (by omega) hb (by omega)
   have u1 := cK cy hy
   have e1 : (j + 1) * s' = j * s' + s' := by rw [Nat.add_mul]; omega
   have e2 : (j + 1) * (2 * s' + N + 2) = j * (2 * s' + N + 2) + (2 * s' + N + 2) := by rw [Nat.add_mul]; omega
   have e3 : j * s' ≤ j * (2 * s' + N + 2) := Nat.mul_le_mul_left _ (by omega)
   have sx : sz 2 (wV (lead y) * lead x) ≤ s := by
    refine Nat.le_trans (cZ (b := 2) (by decide) ?_) (fS bx)
    rw [Int.natAbs_mul]
    have : (wV (lead y)).natAbs = 1 := by unfold wV; split <;> rfl
    rw [this, Nat.one_mul]; exact Nat.le_refl _
   have kG := (Bd.aX (b := 2) (by decide) (Bd.pY (b := 2) sx (x.length - y.length)) hms)
   have hlen := bx.len
   refine ⟨m * (lead y).natAbs, gY q (aX (pY (x.length - y.length) (wV (lead y) * lead x)) m), Int.mul_pos hm (by omega), ?_, ?_, fun t => ?_⟩
   ·have h8 : sz 2 ((lead y).natAbs : Int) ≤ s' := Nat.le_trans (cZ (b := 2) (by decide) (by simp)) (fS r8)
    have := b9 (b := 2) (by decide) hms h8
    omega
   ·refine (Bd.gY (b := 2) (s := s + (j + 1) * (2 * s' + N + 2) - 1) (by decide) (hq.mono (by omega) (Nat.le_refl _)) (kG.mono (by omega) (by omega))).mono (by omega) (Nat.le_refl _)
   ·have h5 := ack t y x
    have h6 := h4 t
    rw [qQ, cC, nH]
    have : m * ((lead y).natAbs : Int) * V t x = m * (((lead y).natAbs : Int) * V t x) := by grind
    rw [this, h5]
    grind
theorem al2 {s n : Nat} {a b : ZX} (ha : BZ s n a) (hb : BZ s n b) (h0 : b ≠ 0) : ∃ (m : Int) (q : ZX), 0 < m ∧ sz 2 m ≤ (n + 1) * s + 1 ∧ BZ (s + (n + 1) * (2 * s + n + 2)) n q ∧ ((nx a b = 0 ∧ K m * a = q * b) ∨ (nx a b ≠ 0 ∧ ∃ k : Int, 0 < k ∧ K m * a = q * b - K k * nx a b)) := by
 obtain ⟨P3, hN, _⟩ := sA (a := a) h0
 obtain ⟨m, q, hm, hms, hq, e⟩ := UX hb b.c (ZX.aC.1 h0) (a.l.length + 1) (n + 1) s a.l a.c (by omega) ha (by have := ha.len; have := ZX.aC.1 h0; show a.l.length + 1 ≤ b.l.length + (n + 1); omega)
 rw [← P3] at e
 have e1 : K m * a = ZX.of q * b + rz a b := ZX.ext fun t => by rw [dM, sP, jI, dM, EL]; exact e t
 refine ⟨m, ZX.of q, hm, hms, Bd.cut hq, ?_⟩
 by_cases hr : rz a b = 0
 ·left
  refine ⟨?_, by rw [e1, hr]; grind⟩
  exact ZX.ext fun t => by
   show V t (gH (jM (rz a b).l)) = _
   rw [hr]; rfl
 ·right
  have hrn : (rz a b).l ≠ [] := tZ hr
  have hp := CX (rz a b).c hrn
  have hg := cD (rz a b).c hrn
  have hnx : K (bK (rz a b).l : Int) * nx a b = -(rz a b) := ZX.ext fun t => by
   rw [dM, sP, F2]
   show _ * V t (gH (jM (rz a b).l)) = _
   rw [BL]
   have h2 : V t (rz a b).l = V t (jM (rz a b).l) * (bK (rz a b).l : Int) := by rw [← dV, hp]
   rw [h2]; grind
  refine ⟨fun h => hr ?_, _, Int.natCast_pos.2 (Nat.pos_of_ne_zero hg), by rw [hnx, e1]; grind⟩
  rw [h] at hnx
  have : (rz a b) = -(K (bK (rz a b).l : Int) * 0) := by rw [hnx]; grind
  rw [this]; grind
theorem M5 {a b : ZX} (hb : b ≠ 0) (hg : gz a b = 1) (hd : dv b a) : ∃ c : Int, c ≠ 0 ∧ b = K c := by
 have h1 := (eE a b).least hd (dv.refl b)
 rw [hg] at h1
 have h2 := h1.lZ lY
 rw [ZX.rB] at h2
 have := ZX.aC.1 hb
 exact ZX.jZ (by omega)
def JY (C n β : Nat) : Nat := C + (n + 1) * (2 * C + n + 2) + n * (β + 2) + 2
theorem UY {C n β : Nat} (hn : n ≤ 20) : ∀ (k s : Nat) (a b : ZX), ZX.N b ≤ k → b ≠ 0 → BZ s n a → BZ s n b → zK C n s a b → gz a b = 1 → StC (2 ^ JY C n β) (2 ^ β) (a :: uE k a b) ∧ ∀ p ∈ uE k a b, BZ C n p
 | 0, s, a, b, hk, h0, _, _, _, _ => absurd hk (by have := ZX.aC.1 h0; omega)
 | k + 1, s, a, b, hk, h0, ha, hb, hp, hg => by
  have hs := hp.le
  have hNb := ZX.aC.1 h0
  obtain ⟨m, q, hm, hms, hq, hr⟩ := al2 ha hb h0
  rw [uE, if_neg (by omega)]
  have hbC : BZ C n b := hb.mono (by omega) (Nat.le_refl _)
  rcases hr with ⟨hz, e1⟩ | ⟨hz, kk, hkk, e1⟩
  ·rw [hz, j2]
   exact ⟨M5 h0 hg ⟨m, by omega, q, e1⟩, fun p hp => by
    simp only [List.mem_cons, List.not_mem_nil, or_false] at hp
    subst hp; exact hbC⟩
  ·have hN := XX (a := a) h0
   have n4 : gz b (nx a b) = 1 := by
    rw [← hg]
    exact (IK (c := m) (k := -kk) (q := q) (by omega) (by omega) (by rw [e1, show K (-kk) = -K kk from ZX.ext fun t => by rw [sP, F2, sP]]; grind)).symm
   obtain ⟨ih, ih2⟩ := UY hn k _ b (nx a b) (by omega) hz (hb.mono (Nat.le_add_right _ _) (Nat.le_refl _)) (UK ha hb h0) (hp.step hN) n4
   refine ⟨?_, fun p hp => ?_⟩
   ·obtain ⟨k2, rfl⟩ : ∃ k2, k = k2 + 1 := ⟨k - 1, by have := ZX.aC.1 hz; omega⟩
    rw [uE, if_neg (by have := ZX.aC.1 hz; omega)] at ih ⊢
    have c1 : (n + 1) * s ≤ (n + 1) * (2 * C + n + 2) := Nat.mul_le_mul_left _ (by omega)
    have c2 : (n + 1) * (2 * s + n + 2) ≤ (n + 1) * (2 * C + n + 2) := Nat.mul_le_mul_left _ (by omega)
    refine ⟨ih, m, kk, q, hm, hkk, e1, ?_, fun t ht => ?_⟩
    ·have h1 := (aiH hms).2
     have h2 := kW (show (n + 1) * s + 1 + 1 ≤ JY C n β by unfold JY; omega)
     rw [Rat.pow_succ] at h2
     grind
    ·have h1 := (BZ.aw8 hq ht)
     have h2 := (Ab.mul (x := 2) (M := 2) ⟨by decide, by decide⟩ h1)
     refine h2.mono ?_
     have h3 := kW (show s + (n + 1) * (2 * s + n + 2) + n * (β + 2) + 1 ≤ JY C n β by unfold JY; omega)
     rw [Rat.pow_succ] at h3
     grind
   ·rcases List.mem_cons.1 hp with rfl | hp
    ·exact hbC
    ·exact ih2 p hp
theorem M6 : ∀ (k : Nat) (a b : ZX), (uE k a b).length ≤ ZX.N b
 | 0, a, b => by simp [uE]
 | k + 1, a, b => by
  rw [uE]
  split
  ·simp
  ·rename_i h0
   have := XX (a := a) (ZX.aC.2 (Nat.pos_of_ne_zero h0))
   have := M6 k b (nx a b)
   simp only [List.length_cons]; omega
theorem ar8 {a : ZX} (ha : a ≠ 0) : ∃ c : Int, 0 < c ∧ a = K c * pV a := by
 have hp := CX a.c (tZ ha)
 refine ⟨(bK a.l : Int), Int.natCast_pos.2 (Nat.pos_of_ne_zero (cD a.c (tZ ha))), ZX.ext fun t => ?_⟩
 rw [dM, sP]
 show _ = _ * V t (jM a.l)
 have h2 : V t a.l = V t (jM a.l) * (bK a.l : Int) := by rw [← dV, hp]
 rw [h2]; grind
theorem agz {C s n β : Nat} {f : ZX} (hn : n ≤ 20) (hf : f ≠ 0) (hb : BZ (s + 5) n f) (hp : zK C n (s + 5) f (pV (bI f))) (bd : BZ (s + 5) n (pV (bI f))) (hg : gz f (bI f) = 1) : StC (2 ^ JY C n β) (2 ^ β) (aU f) ∧ (∀ p ∈ aU f, BZ C n p) ∧ (aU f).length ≤ n + 1 ∧ ∀ g k, uE (ZX.N f) f (pV (bI f)) = g :: k → ∃ c : Int, 0 < c ∧ bI f = K c * g := by
 have hs := hp.le
 have hfC : BZ C n f := hb.mono (by omega) (Nat.le_refl _)
 have hNf := hb.N
 have h1 := lN f
 have h2 : ZX.N (pV (bI f)) ≤ ZX.N (bI f) := lM _
 by_cases h0 : bI f = 0
 ·have yT : pV (bI f) = 0 := by rw [h0]; exact ZX.ext fun t => rfl
  have hc : aU f = [f] := by unfold aU; rw [yT, j2]
  rw [hc]
  have hN1 : ZX.N f ≤ 1 := Classical.byContradiction fun h => CQ (a := f) (by omega) h0
  refine ⟨ZX.jZ (by have := ZX.aC.1 hf; omega), fun p hp => by
   simp only [List.mem_cons, List.not_mem_nil, or_false] at hp
   subst hp; exact hfC, by simp, fun g k h => ?_⟩
  rw [yT, j2] at h; cases h
 ·obtain ⟨c, hc, e⟩ := ar8 h0
  have yT : pV (bI f) ≠ 0 := fun h => h0 (by rw [e, h]; grind)
  have n4 : gz f (pV (bI f)) = 1 := by
   rw [← hg]
   refine CV (dv.refl f) (dv.refl f) ⟨1, by decide, K c, by rw [e]; show (1 : ZX) * _ = _; grind⟩ ⟨c, by omega, 1, by grind⟩
  obtain ⟨g1, g2⟩ := UY (β := β) hn (ZX.N f) (s + 5) f (pV (bI f)) (by omega) yT hb bd hp n4
  refine ⟨g1, fun p hp => ?_, ?_, fun g k h => ?_⟩
  ·rcases List.mem_cons.1 hp with rfl | hp
   ·exact hfC
   ·exact g2 p hp
  ·have := M6 (ZX.N f) f (pV (bI f))
   show (f :: uE (ZX.N f) f (pV (bI f))).length ≤ _
   simp only [List.length_cons]
   omega
  ·obtain ⟨j, hj⟩ : ∃ j, ZX.N f = j + 1 := ⟨ZX.N f - 1, by have := ZX.aC.1 hf; omega⟩
   rw [hj, uE, if_neg (by have := ZX.aC.1 yT; omega)] at h
   cases h
   exact ⟨c, hc, e⟩
theorem UZ (μ : Nat) : ∀ k, (2 : Rat) ^ (μ * k) * zL (2 ^ μ) k = 1
 | 0 => by simp [zL]
 | k + 1 => by
  have h1 := UZ μ k
  have h2 : zL (2 ^ μ) (k + 1) = zL (2 ^ μ) k / 2 ^ μ := rfl
  have h3 : zL ((2 : Rat) ^ μ) k / 2 ^ μ * 2 ^ μ = zL (2 ^ μ) k := Rat.div_mul_cancel (Rat.ne_of_gt (two_pow_pos μ))
  rw [h2, Nat.mul_add, Nat.mul_one, nT]
  grind
def jb (C n β : Nat) : Nat := (n + 1) * JY C n β + C + n * (β + 2) + 1
theorem U0 {C s n β : Nat} {f : ZX} (hn : n ≤ 20) (hf : f ≠ 0) (hb : BZ (s + 5) n f) (hp : zK C n (s + 5) f (pV (bI f))) (bd : BZ (s + 5) n (pV (bI f))) (hg : gz f (bI f) = 1) {δ : Rat} (hδ : δ * 2 ^ jb C n β ≤ 1) : Lcl (aU f) f (2 ^ β) δ := by
 obtain ⟨h1, h2, h3, h4⟩ := agz (β := β) hn hf hb hp bd hg
 have hM : (2 : Rat) ≤ 2 ^ JY C n β := by
  have := kW (show 1 ≤ JY C n β by unfold JY; omega)
  rw [Rat.pow_one] at this
  exact this
 refine StC.loc (Q := 2 ^ (C + n * (β + 2))) hM (nU β) (Rat.le_of_lt (two_pow_pos C)) h1 (fun p hp => ⟨(h2 p hp).ab, ?_⟩) h4 ?_
 ·rw [I4]
  exact kW (by have := Nat.mul_le_mul_right (β + 2) (h2 p hp).len; omega)
 ·have e1 := UZ (JY C n β) (aU f).length
  have hε := wE hM (aU f).length
  have h5 : JY C n β * (aU f).length + (C + n * (β + 2)) + 1 ≤ jb C n β := by
   have := Nat.mul_le_mul_left (JY C n β) h3
   rw [Nat.mul_comm (JY C n β) (n + 1)] at this
   unfold jb; omega
  have h6 := kW h5
  rw [Rat.pow_succ, nT] at h6
  have hA := two_pow_pos (JY C n β * (aU f).length)
  have hB := two_pow_pos (C + n * (β + 2))
  show δ * 2 ^ (C + n * (β + 2)) < zL (2 ^ JY C n β) (aU f).length
  generalize (2 : Rat) ^ (JY C n β * (aU f).length) = A at *
  generalize (2 : Rat) ^ (C + n * (β + 2)) = Q at *
  generalize zL ((2 : Rat) ^ JY C n β) (aU f).length = ε at *
  generalize (2 : Rat) ^ jb C n β = J at *
  by_cases h0 : 0 < δ
  ·have h7 := Rat.mul_le_mul_of_nonneg_left h6 (Rat.le_of_lt h0)
   have h8 : δ * Q * A ≤ 1 / 2 := by grind
   refine Rat.lt_of_mul_lt_mul_right (c := A) ?_ (Rat.le_of_lt hA)
   grind
  ·have h7 := Rat.mul_le_mul_of_nonneg_right (show δ ≤ 0 by grind) (Rat.le_of_lt hB)
   grind
theorem I5 : ∀ (l : List Int) (n : Nat) (p : Int), (l.foldl uI (n, p)).1 = n + ER p l
 | [], n, p => rfl
 | s :: l, n, p => by
  have h : uI (n, p) s = if s = 0 then (n, p) else (if p ≠ 0 ∧ s ≠ p then n + 1 else n, s) := rfl
  rw [List.foldl_cons, h]
  simp only [ER]
  split
  ·exact I5 l n p
  ·split <;> rw [I5 l] <;> omega
theorem RF (l : List Int) : vr l = ER 0 l := by
 rw [vr, I5]; omega
theorem aiI {n d : Int} {q : Rat} (h : (n : Rat) = q * d) : ∀ x : List Int, ((hm n d x).1 : Rat) * d = qv q x * (d : Rat) ^ x.length ∧ ((hm n d x).2 : Rat) = (d : Rat) ^ x.length
 | [] => by
  refine ⟨?_, ?_⟩
  ·show ((0 : Int) : Rat) * d = 0 * _
   rw [Rat.intCast_zero, Rat.zero_mul, Rat.zero_mul]
  ·show ((1 : Int) : Rat) = (d : Rat) ^ 0
   rw [Rat.intCast_one, Rat.pow_zero]
 | a :: l => by
  obtain ⟨h1, h2⟩ := aiI h l
  have e : hm n d (a :: l) = ((hm n d l).1 * n + a * (hm n d l).2, (hm n d l).2 * d) := rfl
  rw [e]
  simp only [qv, List.length_cons, Rat.pow_succ, Rat.intCast_add, Rat.intCast_mul]
  rw [h, h2]
  refine ⟨?_, rfl⟩
  have : (((hm n d l).1 : Rat) * (q * d) + a * (d : Rat) ^ l.length) * d = ((hm n d l).1 : Rat) * d * (q * d) + a * ((d : Rat) ^ l.length * d) := by grind
  rw [this, h1]; grind
theorem YA (v : Int) : v.sign = bG (v : Rat) := by
 rcases Int.lt_trichotomy v 0 with h | h | h
 ·rw [Int.sign_eq_neg_one_of_neg h, eY (Rat.intCast_neg_iff.2 h)]
 ·subst h; decide
 ·rw [Int.sign_eq_one_of_pos h, dJ (Rat.intCast_pos.2 h)]
theorem j3 (p : ZX) (q : Rat) : uT p.l q.num q.den = bG (e q p) := by
 have hd : (0 : Rat) < ((q.den : Int) : Rat) := Rat.intCast_pos.2 (by have := q.den_pos; omega)
 have hq : ((q.num : Int) : Rat) = q * ((q.den : Int) : Rat) := by
  have h1 : q = (q.num : Rat) / ((q.den : Int) : Rat) := by
   rw [← Rat.divInt_eq_div, Rat.num_divInt_den]
  have h2 := Rat.div_mul_cancel (a := (q.num : Rat)) (Rat.ne_of_gt hd)
  rw [← h1] at h2
  exact h2.symm
 have h1 := (aiI hq p.l).1
 show (hm q.num q.den p.l).1.sign = bG (qv q p.l)
 rw [YA]
 have h2 : bG (((hm q.num q.den p.l).1 : Rat) * ((q.den : Int) : Rat)) = bG (qv q p.l * ((q.den : Int) : Rat) ^ p.l.length) := by rw [h1]
 rw [k9, k9, dJ hd, dJ (Rat.pow_pos hd)] at h2
 omega
theorem C9 (c : List ZX) (q : Rat) : vr (nS c q.num q.den) = vt c q := by
 rw [RF]
 unfold vt nS ES
 congr 1
 exact List.map_congr_left fun p _ => j3 p q
theorem al3 (c : List ZX) : ∃ S : Rat, 0 ≤ S ∧ ∀ p ∈ c, ∀ x ∈ p.l, Ab (x : Rat) S := by
 induction c with
 | nil => exact ⟨0, Rat.le_refl, fun p hp => by cases hp⟩
 | cons a c ih =>
  obtain ⟨S, hS, h⟩ := ih
  obtain ⟨A, hA, ha⟩ := wF a.l
  refine ⟨S + A, by grind, fun p hp x hx => ?_⟩
  rcases List.mem_cons.1 hp with rfl | hp
  ·exact (ha x hx).mono (by grind)
  ·exact (h p hp x hx).mono (by grind)
theorem acH (c : List ZX) : ∃ X : Rat, 1 ≤ X ∧ (∀ t, X ≤ t → vt c t = vr (US c)) ∧ ∀ t, t ≤ -X → vt c t = vr (UR c) := by
 obtain ⟨S, hS, h⟩ := al3 c
 refine ⟨S + 1, by grind, fun t ht => ?_, fun t ht => ?_⟩
 ·rw [RF]
  unfold vt US ES
  congr 1
  exact List.map_congr_left fun p hp => (sE hS p.c (h p hp)).1 ht
 ·rw [RF]
  unfold vt UR ES
  congr 1
  exact List.map_congr_left fun p hp => (sE hS p.c (h p hp)).2 ht
theorem mU {a : ZX} (ha : a ≠ 0) : Nf (sq a) ∧ ∀ p, ZX.nK p → ZX.mu p (sq a) = min (ZX.mu p a) 1 := by
 have hA := fF ha
 unfold sq
 split
 ·rename_i h
  refine ⟨hA, fun p hp => ?_⟩
  obtain ⟨c, hc, rfl⟩ := ZX.jZ (x := a) (by have := ZX.aC.1 ha; omega)
  rw [CT hp ha, ZX.QW hp hc]; rfl
 ·exact ⟨aca hA, fun p hp => by rw [acb hA hp, CT hp ha]⟩
theorem U1 {a : ZX} (ha : a ≠ 0) : gz (sq a) (bI (sq a)) = 1 := by
 obtain ⟨h1, h2⟩ := mU ha
 refine Nf.rD (UA h1.ne) Nf.one fun p hp => ?_
 have e1 : mu p (1 : ZX) = 0 := QW hp (by decide)
 have h3 := aiz h1.ne hp
 rw [h2 p hp] at h3
 rw [e1]
 show mu p (gd (sq a)) = 0
 rw [h3]
 omega
theorem sG {a : ZX} (ha : a ≠ 0) : dv (sq a) a := (zA ha).2.trans (F4 a).2
theorem Lcl.mono {L : List ZX} {f : ZX} {B C δ : Rat} (h : Lcl L f B δ) (hc : C ≤ B) : Lcl L f C δ :=
 ⟨fun s t hs ht => h.turns s t (hs.mono hc) (ht.mono hc), fun s t hs ht => h.simple s t (hs.mono hc) (ht.mono hc)⟩
theorem RG (B : Rat) : ∃ β : Nat, B ≤ 2 ^ β := by
 have h1 := Rat.lt_floor_add_one B
 refine ⟨(B.floor + 1).toNat, Rat.le_trans (Rat.le_of_lt h1) ?_⟩
 have h2 : ((2 ^ (B.floor + 1).toNat : Int) : Rat) = 2 ^ (B.floor + 1).toNat := by rw [Rat.intCast_pow]; rfl
 rw [← h2]
 refine Rat.intCast_le_intCast.2 ?_
 have h3 : (B.floor + 1).toNat < 2 ^ (B.floor + 1).toNat := Nat.lt_two_pow_self
 have h4 : ((2 ^ (B.floor + 1).toNat : Nat) : Int) = 2 ^ (B.floor + 1).toNat := by rw [Int.natCast_pow]; rfl
 omega
theorem Ch.YB {s n : Nat} {f : ZX} (h : Ch s n f) (hf : f ≠ 0) (hg : gz f (bI f) = 1) : C6 (aU f) f := ⟨fun B hB => by
 have hn := h.hn
 obtain ⟨β, hβ⟩ := RG B
 have bd : BZ (s + 5) n (bI f) := h.bz.bI (by omega)
 have hJ := two_pow_pos (jb 4500000000 n β)
 have hJ1 : (1 : Rat) / 2 ^ jb 4500000000 n β * 2 ^ jb 4500000000 n β = 1 := Rat.div_mul_cancel (Rat.ne_of_gt hJ)
 refine ⟨1 / 2 ^ jb 4500000000 n β, (Rat.lt_div_iff hJ).2 (by grind), ?_⟩
 exact Lcl.mono (U0 hn hf (h.bz.mono (by omega) (Nat.le_refl _)) h.pot (iT bd) hg (by rw [hJ1]; exact Rat.le_refl)) hβ⟩
def iH (t : Rat) : ZX := of [-t.num, (t.den : Int)]
theorem DA (s t : Rat) : e s (iH t) = ((t.den : Int) : Rat) * (s - t) := by
 rw [iH, ar0, Rat.intCast_neg]
 have hd : (0 : Rat) < ((t.den : Int) : Rat) := Rat.intCast_pos.2 (by have := t.den_pos; omega)
 have hq : ((t.num : Int) : Rat) = t * ((t.den : Int) : Rat) := by
  have h1 : t = (t.num : Rat) / ((t.den : Int) : Rat) := by
   rw [← Rat.divInt_eq_div, Rat.num_divInt_den]
  have h2 := Rat.div_mul_cancel (a := (t.num : Rat)) (Rat.ne_of_gt hd)
  rw [← h1] at h2
  exact h2.symm
 rw [hq]; grind
theorem mV (t : Rat) : ZX.N (iH t) = 2 := by
 have : aN [-t.num, (t.den : Int)] = [-t.num, (t.den : Int)] := iF (x := (t.den : Int)) (by have := t.den_nz; omega) [-t.num]
 show (aN [-t.num, (t.den : Int)]).length = 2
 rw [this]; rfl
theorem aw9 {a b : ZX} {t : Rat} (h : dv b a) (hb : e t b = 0) : e t a = 0 := by
 obtain ⟨c, hc, q, he⟩ := h
 have h1 : (c : Rat) * e t a = e t q * e t b := by rw [← uU (t := t) c, ← gR, he, gR]
 rw [hb, Rat.mul_zero] at h1
 exact (Rat.mul_eq_zero.1 h1).resolve_left fun h => hc (Rat.intCast_eq_zero_iff.1 h)
theorem agA {a : ZX} {t : Rat} : e t a = 0 ↔ dv (iH t) a := by
 have h0 : iH t ≠ 0 := ZX.aC.2 (by rw [mV]; decide)
 have hz : e t (iH t) = 0 := by rw [DA]; grind
 refine ⟨fun ha => ?_, fun h => aw9 h hz⟩
 obtain ⟨c, hc, q, r, he, hN⟩ := ZX.ab2 a h0
 have h1 : e t (K c * a) = e t q * e t (iH t) + e t r := by rw [he, UM, gR]
 rw [gR, ha, hz] at h1
 have hr : e t r = 0 := by grind
 have E5 : r = 0 := Classical.byContradiction fun E5 => by
  rw [mV] at hN
  obtain ⟨k, hk, rfl⟩ := ZX.jZ (x := r) (by have := ZX.aC.1 E5; omega)
  rw [uU] at hr
  exact hk (Rat.intCast_eq_zero_iff.1 hr)
 exact ⟨c, hc, q, by rw [he, E5]; grind⟩
theorem YC {L : List ZX} {f : ZX} (h : C6 L f) {b : Rat} (hb : ∀ a, Bg a b f) : vr (UR L) = vt L b := by
 obtain ⟨X, hX, _, h2⟩ := acH L
 by_cases zC : b ≤ -X
 ·exact (h2 b zC).symm
 ·rw [← h2 (-X) Rat.le_refl]
  exact h.bg (hb (-X)) (Rat.not_le.1 zC)
theorem RH {L : List ZX} {f : ZX} (h : C6 L f) {a : Rat} (ha : ∀ b, Bg a b f) : vr (US L) = vt L a := by
 obtain ⟨X, hX, h1, _⟩ := acH L
 by_cases zC : X ≤ a
 ·exact (h1 a zC).symm
 ·rw [← h1 X Rat.le_refl]
  exact (h.bg (ha X) (Rat.not_le.1 zC)).symm
theorem jK (p q : Rat) : (dQ (p.num * q.den) (q.num * p.den) < 0) ↔ p < q := by
 rw [oK, Rat.lt_iff]
theorem acI (C : List ZX) (q : Rat) : vt C q ≤ C.length := by
 have := C7 (nS C q.num q.den)
 rw [C9] at this
 simpa [nS] using this
theorem DB {n d : Int} (h : d ≠ 0) : dE n d = (n : Rat) / d := by rw [dE, if_neg h, Rat.divInt_eq_div]
theorem RJ {n d : Int} (h : d ≠ 0) {q : Rat} (e : (n : Rat) = q * d) : dE n d = q := by
 have hd : (d : Rat) ≠ 0 := fun h0 => h (Rat.intCast_eq_zero_iff.1 h0)
 rw [DB h, e, Rat.mul_div_cancel hd]
theorem I6 (q : Rat) : ((q.num : Int) : Rat) = q * ((q.den : Int) : Rat) := by
 have hd : (0 : Rat) < ((q.den : Int) : Rat) := Rat.intCast_pos.2 (by have := q.den_pos; omega)
 have h1 : q = (q.num : Rat) / ((q.den : Int) : Rat) := by
  rw [← Rat.divInt_eq_div, Rat.num_divInt_den]
 have h2 := Rat.div_mul_cancel (a := (q.num : Rat)) (Rat.ne_of_gt hd)
 rw [← h1] at h2
 exact h2.symm
theorem agB {n d : Int} (hn : sz LL n < 1099511627770) (hd : sz LL d < 1099511627770) (h0 : d ≠ 0) : aG env.P 160 [I n, I d] (.fH [RT (dE n d), .int .i64 0]) := by
 have n1 := HX (x := d) (by show _ < _; omega)
 have n2 := HX (x := n) (by show _ < _; omega)
 have z1 := GF d
 have l1 := uH hn hd h0
 rw [show decide (d = 0) = false from decide_eq_false h0] at z1
 show aG env.P _ _ (.fH [T2 (dE n d).num (dE n d).den, _])
 replace l1 : aG env.P 179 [I n, I d] (T2 (dE n d).num (dE n d).den) := l1
 generalize (dE n d).num = rn at *
 generalize ((dE n d).den : Int) = rd at *
 refine bV [(0, I n), (1, I d)] Tryz.func160 ?_
 refine aA [2, 3, 4] ?_
 refine W.seq ?_
 refine aK [2, 3, 4] n1 ?_
 refine aK [2, 3, 4, 9] z1 ?_
 refine bE ?_ ?_ <;> intro h
 ·simp at h
 refine W.skip ?_
 refine W.sd ?_
 simp (maxSteps := 4000000) (disch := omega) [gw]
 refine aD n2 ?_
 simp (maxSteps := 4000000) (disch := omega) [gw]
 refine aD l1 ?_
 simp (maxSteps := 4000000) (disch := omega) [gw]
 (try (refine bR (of_decide_eq_true (by kernel_rfl)) ?_)); (try simp (maxSteps := 4000000) (disch := omega) [gw]); (repeat rw [if_pos (by kernel_rfl)]); (try simp (maxSteps := 4000000) (disch := omega) [gw])
 refine bH [4, 5] ?_
 exact bT
theorem al4 (p q : Rat) : dE (p.num * q.den + q.num * p.den) (p.den * q.den * 2) = (p + q) / 2 := by
 have h1 : ((p.den : Int) * q.den * 2) ≠ 0 := by
  have := p.den_nz; have := q.den_nz
  refine Int.mul_ne_zero (Int.mul_ne_zero ?_ ?_) (by decide) <;> omega
 refine RJ h1 ?_
 rw [Rat.intCast_add, Rat.intCast_mul, Rat.intCast_mul, Rat.intCast_mul, Rat.intCast_mul, I6 p, I6 q]
 have h2 : (p + q) / 2 * 2 = p + q := Rat.div_mul_cancel (by decide)
 show _ = (p + q) / 2 * (((p.den : Int) : Rat) * ((q.den : Int) : Rat) * 2)
 generalize (p + q) / 2 = m at *
 grind
theorem M7 {p q : Rat} {k : Nat} (hp : sz LL p.num ≤ k ∧ sz LL (p.den : Int) ≤ k) (hq : sz LL q.num ≤ k ∧ sz LL (q.den : Int) ≤ k) (hk : k ≤ 300000000000) : aG env.P 95 [RT p, RT q] (RT ((p + q) / 2)) := by
 have c1 := GG hp.1 hp.2 hq.1 hq.2 (by omega) (c7 p) (c7 q) hp hq
 have g1 := b9 (b := LL) fY hp.1 hq.2
 have g2 := b9 (b := LL) fY hq.1 hp.2
 have g3 := b9 (b := LL) fY hp.2 hq.2
 have s2 : sz LL 2 ≤ 1 := dD (k := 1) fY (by decide)
 have g4 := b9 (b := LL) fY g3 s2
 have g5 := n7 (b := LL) fY (Nat.le_trans g1 (show k + k ≤ k + k from Nat.le_refl _)) (Nat.le_trans g2 (show k + k ≤ k + k from Nat.le_refl _))
 have a1 := TJ (x := p.num * q.den) (y := q.num * p.den) (by show _ < _; omega) (by show _ < _; omega)
 have o1 := BS 2 (by decide) (by decide)
 have m1 := vI (x := (p.den : Int) * q.den) (y := 2) (by show _ < _; omega) (by show _ < _; omega)
 have h1 : ((p.den : Int) * q.den * 2) ≠ 0 := by
  have := p.den_nz; have := q.den_nz
  refine Int.mul_ne_zero (Int.mul_ne_zero ?_ ?_) (by decide) <;> omega
 have l1 := uH (n := p.num * q.den + q.num * p.den) (d := p.den * q.den * 2) (by omega) (by omega) h1
 rw [al4] at l1
 show aG env.P _ [T2 p.num p.den, T2 q.num q.den] (T2 ((p + q) / 2).num ((p + q) / 2).den)
 replace l1 : aG env.P 179 [I (p.num * q.den + q.num * p.den), I (p.den * q.den * 2)] (T2 ((p + q) / 2).num ((p + q) / 2).den) := l1
 clear g1 g2 g3 g4 g5 h1 hp hq
 generalize ((p + q) / 2).num = rn at *
 generalize (((p + q) / 2).den : Int) = rd at *
 generalize p.num * (q.den : Int) + q.num * p.den = x4 at *
 generalize (p.den : Int) * q.den * 2 = x5 at *
 generalize p.num * (q.den : Int) = x1 at *
 generalize q.num * (p.den : Int) = x2 at *
 generalize (p.den : Int) * (q.den : Int) = x3 at *
 generalize p.num = pn at *
 generalize (p.den : Int) = pd at *
 generalize q.num = qn at *
 generalize (q.den : Int) = qd at *
 refine bV [(0, T2 pn pd), (1, T2 qn qd)] Tryz.func95 ?_
 refine aA [2, 3, 4] ?_
 refine aK [4, 5, 6, 7] c1 ?_
 refine W.sd ?_
 simp (maxSteps := 4000000) (disch := omega) [gw]
 refine aD a1 ?_
 simp (maxSteps := 4000000) (disch := omega) [gw]
 refine aD o1 ?_
 simp (maxSteps := 4000000) (disch := omega) [gw]
 refine aD m1 ?_
 simp (maxSteps := 4000000) (disch := omega) [gw]
 refine aD l1 ?_
 simp (maxSteps := 4000000) (disch := omega) [gw]
 (try (refine bR (of_decide_eq_true (by kernel_rfl)) ?_)); (try simp (maxSteps := 4000000) (disch := omega) [gw]); (repeat rw [if_pos (by kernel_rfl)]); (try simp (maxSteps := 4000000) (disch := omega) [gw])
 refine bH [4] ?_
 exact bT
theorem YD {p : Rat} (hp : sz LL p.num < 1099511627770 ∧ sz LL (p.den : Int) < 1099511627770) : aG env.P 77 [RT p] (RT (-p)) := by
 have n1 := sF hp.1 hp.2
 rw [c7] at n1
 have n2 := aic (x := p.num) (by show _ < _; omega)
 replace n1 : aG env.P 161 [T2 p.num p.den] (T2 p.num p.den) := n1
 show aG env.P _ [T2 p.num p.den] (T2 (-p).num (-p).den)
 rw [Rat.neg_num, Rat.neg_den]
 generalize -p.num = rn at *
 generalize p.num = pn at *
 generalize (p.den : Int) = pd at *
 refine bV [(0, T2 pn pd)] Tryz.func77 ?_
 refine aA [1, 2] ?_
 refine aK [1, 2] n1 ?_
 refine aK [1, 2] n2 ?_
 refine aA [2] ?_
 exact bT
theorem M8 {p q : Rat} (hp : ZR YY p) (hq : ZR YY q) (hs : ZR YY (p + q)) : aG env.P 209 [RR p, RR q] (RR ((p + q) / 2)) := by
 have a1 := vN p q hp hq
 have o1 := pF 1 2 (by decide) (by decide)
 have m1 := CE (p + q) (dE 1 2) hs ⟨by decide, by decide⟩
 have e : (p + q) * dE 1 2 = (p + q) / 2 := by
  rw [show dE 1 2 = (1 : Rat) / 2 by rw [DB (by decide)]; rfl]; grind
 rw [e] at m1
 rw [c8] at *
 rw [c8 q, c8 (p + q), c8 (dE 1 2)] at *
 generalize (p + q) / 2 = m at *
 generalize p + q = s at *
 generalize dE 1 2 = hf at *
 generalize p.num = pn at *
 generalize (p.den : Int) = pd at *
 generalize q.num = qn at *
 generalize (q.den : Int) = qd at *
 generalize s.num = sn at *
 generalize (s.den : Int) = sd at *
 generalize hf.num = fn at *
 generalize (hf.den : Int) = fd at *
 rw [c8] at *
 generalize m.num = mn at *
 generalize (m.den : Int) = md at *
 refine bV [(0, R2 pn pd), (1, R2 qn qd)] Tryz.func209 ?_
 refine aA [2, 3, 4] ?_
 refine iU ?_
 refine bZ a1 ?_
 refine bZ o1 ?_
 refine cI [4] m1 ?_
 exact bT
theorem aiJ {x : Int} (hx : Sz x) : aG env.P 158 [I x] (I (x.natAbs : Int)) := by
 have h1 := abw (decide (x < 0)) (aS LL x.natAbs) hx.Y8
 rw [show V 4294967296 (aS LL x.natAbs) = (x.natAbs : Int) from jU fY _] at h1
 exact h1
def kX (x : List Int) : Nat → Int
 | 0 => 0
 | i + 1 => if kX x i < ((nth x i).natAbs : Int) then ((nth x i).natAbs : Int) else kX x i
theorem acJ (x : List Int) : ∀ i, 0 ≤ kX x i
 | 0 => Int.le_refl _
 | i + 1 => by
  have := acJ x i
  rw [kX]; split <;> omega
theorem acK (x : List Int) : ∀ i k, k < i → ((nth x k).natAbs : Int) ≤ kX x i
 | 0, k, h => by omega
 | i + 1, k, h => by
  rw [kX]
  by_cases hk : k = i
  ·subst hk; split <;> omega
  ·have := acK x i k (by omega)
   split <;> omega
theorem uK {b s n : Nat} {x : List Int} (h : Bd b s n x) : ∀ i, Pm.sz b (kX x i) ≤ s
 | 0 => by show Pm.sz b 0 ≤ s; rw [jW]; omega
 | i + 1 => by
  have ih := uK h i
  have h1 := h.nth i
  have h2 : Pm.sz b ((nth x i).natAbs : Int) = Pm.sz b (nth x i) := by unfold Pm.sz; rw [Int.natAbs_natCast]
  rw [kX]; split
  ·rw [h2]; exact h1
  ·exact ih
def eW (x : List Int) : Rat := dE (((lead x).natAbs : Int) + kX x (x.length - 1)) ((lead x).natAbs : Int)
theorem RK {α : Type} {g : α → List PV} {l : List α} {s n : Nat} {x : List Int} (hN : aG env.P 68 [aI g l] (Po x)) (cx : Cn x) (hx : x ≠ []) (b : Bd LL s n x) (hs : s < 500000000000) (hn : n < 500000000000) : aG env.P 75 [aI g l] (.fH [RT (eW x), .int .i64 0]) := by
 have n9 : 0 < x.length := List.length_pos_iff.2 hx
 have hlen := b.len
 have u1 := cK cx n9
 have L1 := kM (PB.of b (by omega) (by omega)) cx
 have hld := fS b
 have A1 := aiJ (x := lead x) (Nat.lt_of_le_of_lt hld (by omega))
 have RL : sz LL ((lead x).natAbs : Int) ≤ s := Nat.le_trans (cZ fY (by simp)) hld
 have hm := uK b (x.length - 1)
 have S1 := TJ (x := ((lead x).natAbs : Int)) (y := kX x (x.length - 1)) (Nat.lt_of_le_of_lt RL (by omega)) (Nat.lt_of_le_of_lt hm (by omega))
 have axa := n7 (b := LL) fY RL hm
 have M1 := agB (n := ((lead x).natAbs : Int) + kX x (x.length - 1)) (d := ((lead x).natAbs : Int)) (by omega) (by omega) (by omega)
 replace M1 : aG env.P 160 [I (((lead x).natAbs : Int) + kX x (x.length - 1)), I ((lead x).natAbs : Int)] (.fH [T2 (eW x).num (eW x).den, .int .i64 0]) := M1
 show aG env.P _ _ (.fH [T2 (eW x).num (eW x).den, _])
 have C1 : ∀ i, i < x.length → aG env.P 158 [I (nth x i)] (I ((nth x i).natAbs : Int)) ∧ aG env.P 159 [I ((nth x i).natAbs : Int), I (kX x i)] (.int .i64 (dQ ((nth x i).natAbs : Int) (kX x i))) := fun i hi => by
  have h1 := b.nth i
  have h2 : sz LL ((nth x i).natAbs : Int) ≤ s := Nat.le_trans (cZ fY (by simp)) h1
  exact ⟨aiJ (Nat.lt_of_le_of_lt h1 (by omega)), abn (Nat.lt_of_le_of_lt h2 (by omega)) (Nat.lt_of_le_of_lt (uK b i) (by omega))⟩
 have SI : ∀ i, kX x (i + 1) = if 0 < dQ ((nth x i).natAbs : Int) (kX x i) then ((nth x i).natAbs : Int) else kX x i := fun i => by
  rw [kX]
  by_cases h : kX x i < ((nth x i).natAbs : Int)
  ·rw [if_pos h, if_pos (oL.2 h)]
  ·rw [if_neg h, if_neg (fun q => h (oL.1 q))]
 have h0 : kX x 0 = 0 := rfl
 clear hm axa RL hld
 generalize (eW x).num = rn at *
 generalize ((eW x).den : Int) = rd at *
 generalize ((lead x).natAbs : Int) + kX x (x.length - 1) = sm at *
 generalize ((lead x).natAbs : Int) = la at *
 generalize kX x = mf at *
 have e1 : ((x.length : Int) - 1).toNat = x.length - 1 := by omega
 have e2 : (x.length : Int) - 1 = ((x.length - 1 : Nat) : Int) := by omega
 refine bV [(0, aI g l)] Tryz.func75 ?_
 refine aA [0, 2] ?_
 refine aK [0, 2] hN ?_
 refine aL [0, 2, 13] ?_
 refine bE ?_ ?_ <;> intro h
 ·simp at h; exact absurd h hx
 refine W.skip ?_
 refine aA [0, 2, 4] ?_
 refine W.row (id := 4) (els := [[.bool false, .nil]]) [[.bool (decide ((0 : Int) < 0)), us (aS LL (0 : Int).natAbs)]] (by simp; first | exact ⟨rfl, rfl, rfl⟩ | exact ⟨rfl, rfl⟩ | rfl) ⟨⟨.inl rfl, .inr ⟨rfl, rfl⟩, trivial⟩, trivial⟩ ?_
 refine W.seq ?_
 refine W.sr ?_
 simp (disch := omega) [gw, e1, e2]
 refine bH [0, 2, 4, 19, 20, 21] ?_
 refine W.block ?_
 refine W.bC (fun k σ => ∃ (v2 e2 v4 e4 i : Nat) (rows : Pm.Rows) (clk : Nat), σ = ⟨fa [(0, Po x), (2, .ptr 2 v2 0 0), (4, .ptr 4 v4 0 0), (19, aI ie (x.take (x.length - 1))), (20, .int .i64 ((x.length - 1 : Nat) : Int)), (21, .int .i64 i)], rows, clk⟩ ∧ i + k = x.length - 1 ∧
  rows 2 = some ⟨v2, e2, 4, [[.bool false, .nil, .bool false, .nil]]⟩ ∧ rows 4 = some ⟨v4, e4, 2, [[.bool (decide (mf i < 0)), us (aS LL (mf i).natAbs)]]⟩) (x.length - 1) ?_ ?_
 ·exact ⟨_, .refl, _, _, _, _, 0, _, _, rfl, by omega, by simp; (first | exact ⟨rfl, rfl⟩ | rfl), by rw [h0]; simp; (first | exact ⟨rfl, rfl⟩ | rfl)⟩
 rintro k _ ⟨v2, e2, v4, e4, i, rows, clk, rfl, EJ, dP, iV⟩
 refine cS [0, 2, 4, 19, 20, 21, 22] ?_
 refine bE ?_ ?_ <;> intro h
 ·have hi : i < x.length - 1 := by simp at h; omega
  have GS : i < x.length := by omega
  have wR : nth (x.take (x.length - 1)) i = nth x i := by unfold nth; rw [List.getElem?_take_of_lt hi]
  obtain ⟨c1, c2⟩ := C1 i GS
  have hm := SI i
  generalize dQ ((nth x i).natAbs : Int) (mf i) = cv at *
  generalize ((nth x i).natAbs : Int) = ab at *
  generalize nth x i = xi at *
  refine W.skip ?_
  refine W.eT (fun σ => ∃ (v2 e2 v4 e4 : Nat) (rows : Pm.Rows) (clk : Nat), σ = ⟨fa [(0, Po x), (2, .ptr 2 v2 0 0), (4, .ptr 4 v4 0 0), (19, aI ie (x.take (x.length - 1))), (20, .int .i64 ((x.length - 1 : Nat) : Int)), (21, .int .i64 i)], rows, clk⟩ ∧
   rows 2 = some ⟨v2, e2, 4, [[.bool false, .nil, .bool false, .nil]]⟩ ∧ rows 4 = some ⟨v4, e4, 2, [[.bool (decide (mf (i + 1) < 0)), us (aS LL (mf (i + 1)).natAbs)]]⟩) ?_ ?_
  ·refine W.sr ?_
   simp (disch := omega) [gw, hi, wR]
   refine bH [0, 2, 4, 6, 19, 20, 21] ?_
   refine aK [0, 2, 4, 7, 19, 20, 21] c1 ?_
   refine W.sr ?_
   simp (disch := omega) [gw, iV]
   refine cI [0, 2, 4, 7, 19, 20, 21, 30] c2 ?_
   refine bE ?_ ?_ <;> intro h
   ·have h : 0 < cv := by simpa using h
    rw [if_pos h] at hm
    refine W.b8 (fun K hK => ?_); simp (disch := omega) [gw, iV]
    exact hK _ ⟨_, aB _ [0, 2, 4, 19, 20, 21], _, _, _, _, _, _, rfl, by simp [dP]; exact rfl, by simp [hm]; exact rfl⟩
   ·have h : ¬ 0 < cv := by simpa using h
    rw [if_neg h] at hm
    refine W.skip ?_
    exact ⟨_, aB _ [0, 2, 4, 19, 20, 21], _, _, _, _, _, _, rfl, by simp [dP]; exact rfl, by simp [hm, iV]; exact rfl⟩
  rintro _ ⟨v2, e2, v4, e4, rows, clk, rfl, dP, iV⟩
  refine W.b8 (fun K hK => ?_); simp (disch := omega) [gw]
  refine hK _ ⟨k - 1, _, aB _ [0, 2, 4, 19, 20, 21], by omega, _, _, _, _, i + 1, _, _, rfl, by omega, dP, iV⟩
 ·have hi : i = x.length - 1 := by simp at h; omega
  subst hi
  refine fB ?_
  refine iU ?_
  refine bZ L1 ?_
  refine cI [2, 4, 8] A1 ?_
  refine W.sd ?_
  simp (disch := omega) [gw, iV]
  refine aD S1 ?_
  simp (maxSteps := 4000000) (disch := omega) [gw]
  refine aD M1 ?_
  simp (disch := omega) [gw, dP]
  (try (refine bR (of_decide_eq_true (by kernel_rfl)) ?_)); (try simp (maxSteps := 4000000) (disch := omega) [gw, dP]); (repeat rw [if_pos (by kernel_rfl)]); (try simp (maxSteps := 4000000) (disch := omega) [gw, dP])
  refine bH [2, 3] ?_
  exact bT
theorem xO {x : List Int} (cx : Cn x) (hx : x ≠ []) : eW x = 1 + ((kX x (x.length - 1) : Int) : Rat) / (((lead x).natAbs : Int) : Rat) := by
 have u1 := cK cx (List.length_pos_iff.2 hx)
 have h1 : ((lead x).natAbs : Int) ≠ 0 := by omega
 have h2 : (((lead x).natAbs : Int) : Rat) ≠ 0 := fun h => h1 (Rat.intCast_eq_zero_iff.1 h)
 refine RJ h1 ?_
 rw [Rat.intCast_add]
 have h3 := Rat.div_mul_cancel (a := ((kX x (x.length - 1) : Int) : Rat)) h2
 generalize ((kX x (x.length - 1) : Int) : Rat) / (((lead x).natAbs : Int) : Rat) = w at *
 grind
theorem al5 {u v : Int} {k : Nat} (hu : sz 2 u ≤ k) (hv : sz 2 v ≤ k) (h0 : v ≠ 0) : ZR k ((u : Rat) / (v : Rat)) := by
 rw [← DB h0]
 have e : ∀ w : Int, sz 2 (-w) = sz 2 w := fun w => by unfold sz; rw [Int.natAbs_neg]
 constructor
 ·rw [pD u v h0]
  refine Nat.le_trans (cZ (b := 2) (by decide) (Int.natAbs_ediv_le_natAbs _ _)) ?_
  split
  ·rw [e]; exact hu
  ·exact hu
 ·rw [pE u v h0]
  refine Nat.le_trans (cZ (b := 2) (by decide) (Int.natAbs_ediv_le_natAbs _ _)) ?_
  split
  ·rw [e]; exact hv
  ·exact hv
theorem RM {s n : Nat} {x : List Int} (cx : Cn x) (hx : x ≠ []) (b : Bd 2 s n x) (p7 : 1 ≤ s) (hs : s ≤ 1000000000) (hn : n < 1099511627776) : aG env.P 180 [PI x] (RR (eW x)) := by
 have n9 : 0 < x.length := List.length_pos_iff.2 hx
 have hlen := b.len
 have u1 := cK cx n9
 have hY : YY = 137438953472 := rfl
 have hO := pF 1 1 (by decide) (by decide)
 rw [show dE 1 1 = 1 from by decide] at hO
 have J7 : x.length < 2 → eW x = 1 := fun h => by
  rw [xO cx hx, show x.length - 1 = 0 by omega]
  show 1 + ((0 : Int) : Rat) / _ = 1
  rw [Rat.intCast_zero, Rat.div_def, Rat.zero_mul, Rat.add_zero]
 have hld := fS b
 have RL : sz 2 ((lead x).natAbs : Int) ≤ s := Nat.le_trans (cZ (b := 2) (by decide) (by simp)) hld
 have hm := uK b (x.length - 1)
 have Z1 : ∀ {v : Int}, sz 2 v ≤ s → ZR YY ((v : Int) : Rat) := fun h => oA (by omega) (by decide)
 have Q1 := CF ((kX x (x.length - 1) : Int) : Rat) (((lead x).natAbs : Int) : Rat) (Z1 hm) (Z1 RL) (fun h => by have := Rat.intCast_eq_zero_iff.1 h; omega)
 have hz := al5 (k := YY) (Nat.le_trans hm (by omega)) (Nat.le_trans RL (by omega)) (by omega : ((lead x).natAbs : Int) ≠ 0)
 have A1 := vN 1 (((kX x (x.length - 1) : Int) : Rat) / (((lead x).natAbs : Int) : Rat)) ⟨by decide, by decide⟩ hz
 rw [← xO cx hx] at A1
 have C1 : ∀ i, i < x.length → aG env.P 15 [R2 ((nth x i).natAbs : Int) 1, R2 (kX x i) 1] (.int .i64 (dQ ((nth x i).natAbs : Int) (kX x i))) := fun i hi => by
  have h1 := b.nth i
  have h2 : sz 2 ((nth x i).natAbs : Int) ≤ s := Nat.le_trans (cZ (b := 2) (by decide) (by simp)) h1
  have h3 := uK b i
  have := xJ ((nth x i).natAbs : Int) 1 (kX x i) 1 (by omega) (by decide) (by omega) (by decide)
  rwa [Int.mul_one, Int.mul_one] at this
 have SI : ∀ i, kX x (i + 1) = if 0 < dQ ((nth x i).natAbs : Int) (kX x i) then ((nth x i).natAbs : Int) else kX x i := fun i => by
  rw [kX]
  by_cases h : kX x i < ((nth x i).natAbs : Int)
  ·rw [if_pos h, if_pos (oL.2 h)]
  ·rw [if_neg h, if_neg (fun q => h (oL.1 q))]
 have h0 : kX x 0 = 0 := rfl
 have n3 := oP
 have ar9 : nth x (x.length - 1) = lead x := rfl
 have hd : ∀ v : Int, decide (((v.natAbs : Int)) < 0) = false := fun v => decide_eq_false (by omega)
 have hna : ∀ v : Int, ((v.natAbs : Int)).natAbs = v.natAbs := fun v => Int.natAbs_natCast _
 clear hm hld RL hz Z1
 rw [show RR ((kX x (x.length - 1) : Int) : Rat) = .ag (ri (kX x (x.length - 1))) from congrArg PV.ag (fO _), show RR (((lead x).natAbs : Int) : Rat) = .ag (ri ((lead x).natAbs : Int)) from congrArg PV.ag (fO _)] at Q1
 rw [show RR (1 : Rat) = .ag (ri 1) from congrArg PV.ag (fO 1)] at A1 hO
 generalize ((kX x (x.length - 1) : Int) : Rat) / (((lead x).natAbs : Int) : Rat) = qq at *
 generalize hbd : eW x = B at *
 simp only [c8] at Q1 A1 ⊢
 have zC : x.length < 2 → R2 B.num (B.den : Int) = .ag (ri 1) := fun h => by rw [J7 h]; rfl
 generalize B.num = bn at *
 generalize (B.den : Int) = bd at *
 generalize qq.num = qn at *
 generalize (qq.den : Int) = qd at *
 generalize hmf : kX x = mf at *
 have e1 : ((x.length : Int) - 1).toNat = x.length - 1 := by omega
 refine bV [(0, PI x)] Tryz.func180 ?_
 refine aA [0, 2] ?_
 refine aK [0, 2, 3] n3 ?_
 refine aL [0, 2, 3, 4] ?_
 refine W.block ?_
 refine W.bC (fun k σ => ∃ (v2 e2 v3 e3 i : Nat) (rows : Pm.Rows) (clk : Nat), σ = ⟨fa [(0, PI x), (2, .ptr 2 v2 0 0), (3, .ptr 3 v3 0 0), (4, .int .i64 i)], rows, clk⟩ ∧ i + k = x.length - 1 ∧
  rows 2 = some ⟨v2, e2, 4, [[.nil, .bool false, .nil, .bool false]]⟩ ∧ rows 3 = some ⟨v3, e3, 4, [[aI aF (aS DD (mf i).natAbs), .bool (decide (mf i < 0)), aI aF (aS DD 1), .bool false]]⟩) (x.length - 1) ?_ ?_
 ·exact ⟨_, .refl, _, _, _, _, 0, _, _, rfl, by omega, by simp; (first | exact ⟨rfl, rfl⟩ | rfl), by rw [h0]; simp; (first | exact ⟨rfl, rfl⟩ | rfl)⟩
 rintro k _ ⟨v2, e2, v3, e3, i, rows, clk, rfl, EJ, dP, fC⟩
 refine aL [0, 2, 3, 4, 12] ?_
 refine bE ?_ ?_ <;> intro h
 ·have hi : i < x.length - 1 := by simp at h; omega
  have GS : i < x.length := by omega
  have c1 := C1 i GS
  have hm := SI i
  have H2 := hd (nth x i)
  have uC := hna (nth x i)
  simp only [H2, uC, IP, R2] at c1
  generalize dQ ((nth x i).natAbs : Int) (mf i) = cv at *
  refine W.skip ?_
  refine W.eT (fun σ => ∃ (v2 e2 v3 e3 : Nat) (rows : Pm.Rows) (clk : Nat), σ = ⟨fa [(0, PI x), (2, .ptr 2 v2 0 0), (3, .ptr 3 v3 0 0), (4, .int .i64 i)], rows, clk⟩ ∧
   rows 2 = some ⟨v2, e2, 4, [[.nil, .bool false, .nil, .bool false]]⟩ ∧ rows 3 = some ⟨v3, e3, 4, [[aI aF (aS DD (mf (i + 1)).natAbs), .bool (decide (mf (i + 1) < 0)), aI aF (aS DD 1), .bool false]]⟩) ?_ ?_
  ·refine W.sr ?_
   simp (disch := omega) [gw, GS]
   refine bH [0, 2, 3, 4, 5] ?_
   refine aA [0, 2, 3, 4, 5] ?_
   refine W.sr ?_
   simp (disch := omega) [gw, fC]
   refine cI [0, 2, 3, 4, 5, 24] c1 ?_
   refine bE ?_ ?_ <;> intro h
   ·have h : 0 < cv := by simpa using h
    rw [if_pos h] at hm
    refine W.b8 (fun K hK => ?_); simp (disch := omega) [gw, fC]
    exact hK _ ⟨_, aB _ [0, 2, 3, 4], _, _, _, _, _, _, rfl, by simp [dP]; exact rfl, by simp [hm, H2, uC]; exact rfl⟩
   ·have h : ¬ 0 < cv := by simpa using h
    rw [if_neg h] at hm
    refine W.skip ?_
    exact ⟨_, aB _ [0, 2, 3, 4], _, _, _, _, _, _, rfl, by simp [dP]; exact rfl, by simp [hm, fC]; exact rfl⟩
  rintro _ ⟨v2, e2, v3, e3, rows, clk, rfl, dP, fC⟩
  refine W.b8 (fun K hK => ?_); simp (disch := omega) [gw]
  refine hK _ ⟨k - 1, _, aB _ [0, 2, 3, 4], by omega, _, _, _, _, i + 1, _, _, rfl, by omega, dP, fC⟩
 ·have hi : i = x.length - 1 := by simp at h; omega
  subst hi
  refine fB ?_
  refine aL [0, 2, 3, 28] ?_
  refine bE ?_ ?_ <;> intro h
  ·have h : x.length < 2 := by simp at h; omega
   rw [zC h]
   refine iU ?_
   refine aD hO ?_
   simp (disch := omega) [gw, dP]
   refine bH [2] ?_
   exact bT
  ·have h : ¬ x.length < 2 := by simp at h; omega
   have GS : x.length - 1 < x.length := by omega
   have H2 := hd (lead x)
   have uC := hna (lead x)
   simp only [R2, abC, IP, H2, uC] at Q1 A1
   refine W.skip ?_
   refine W.sr ?_
   simp (disch := omega) [gw, GS, e1, ar9]
   refine bH [2, 3, 6] ?_
   refine aA [2, 3, 6] ?_
   refine oE ?_
   refine aD hO ?_
   simp (disch := omega) [gw, fC]
   refine bZ Q1 ?_
   refine aD A1 ?_
   simp (disch := omega) [gw, dP]
   (try (refine bR (of_decide_eq_true (by kernel_rfl)) ?_)); (try simp (maxSteps := 4000000) (disch := omega) [gw, dP]); (repeat rw [if_pos (by kernel_rfl)]); (try simp (maxSteps := 4000000) (disch := omega) [gw, dP])
   refine bH [2] ?_
   exact bT
end Go.Proofs.YtelhfbikiccfkaaGreat
