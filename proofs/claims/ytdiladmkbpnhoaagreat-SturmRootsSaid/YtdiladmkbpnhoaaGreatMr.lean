import Derived.Test.YtdiladmkbpnhoaaGreatMq
set_option linter.unusedSimpArgs false
set_option linter.unusedVariables false
namespace Pm
open Go Go.RowKit
def bldO (E : Env) (o : Oper) (K : PS → Prop) (σ : PS) : Prop :=
 match o.op with
 | .build t ⟨[(0, x)]⟩ => E.ty t = .struct [(0, 1, false)] (E.ty t).zero ∧ (E.ty t).zero.length = 1 ∧ cellsS (evf σ.f x) = some [evf σ.f x] ∧ one1 σ.rows (evf σ.f x) ∧ K (σ.put o.dst (.ag [evf σ.f x]))
 | _ => False
section
variable {E : Env} {w0 : World} {S0 : Stab} {m : Nat} {G : Gs}
theorem bldO_sound {o : Oper} {a : Act} {w : World} {σ : PS} {K : PS → Prop} (h : bldO E o K σ) (hR : Rel w0 S0 m G σ a w) (hd : ∀ t, o.dst = some t → t < m)
  {K' : Act → World → Prop} {Q : Exit → Act → World → Prop} (hK : ∀ σ' a' w', K σ' → Rel w0 S0 m G σ' a' w' → K' a' w') : o.wp E.P a w K' Q := by
 obtain ⟨⟨c, rfl, hr, hcl, hI, hf, hG⟩, hn, hdef⟩ := hR
 have hρ := evf_rep hf
 obtain ⟨dst, op, type, pos, after, guard⟩ := o
 simp only at hd
 unfold bldO at h
 simp only at h
 split at h
 ·rename_i t x
  obtain ⟨hE, hzl, hc, ho, hk⟩ := h
  rw [← hr] at ho
  obtain ⟨g1, g2⟩ := cellsS_rep (hρ x) hc (fun q hq => by simp at hq; subst hq; exact ho)
  have ht := E.ok t
  rw [hE] at ht
  obtain ⟨⟨fields, hu, ha⟩, hz⟩ := ht
  obtain ⟨i, zv, hi, hzv, _, hzc, _⟩ := hz.ok
  have hzs : zv.cells.size = 1 := by
   have : (zv.cells.toList.map constC).length = 1 := by rw [hzc]; exact hzl
   simpa using this
  have hvs : (a.eval x).cells.size = 1 := by have := g1.length; simpa using this.symm
  have hfold := foldl_sets 0 (a.eval x).cells.toList 0 zv.cells (by simp; omega)
  have hl : ((a.eval x).cells.toList.zipIdx 0).foldl (fun cs (x : Value × Nat) => cs.setIfInBounds (0 + x.2) x.1) zv.cells = (a.eval x).cells := by
   apply Array.toList_inj.1
   rw [hfold]
   have h1 : (a.eval x).cells.toList.length = 1 := by simpa using hvs
   have h2 : zv.cells.toList.length = 1 := by simpa using hzs
   rw [h1]
   simp [List.drop_of_length_le, h2]
  have hrun : (execOp a.eval { dst := dst, op := .build t ⟨[(0, x)]⟩, type := type, pos := pos, after := after, guard := guard }).run E.P c.w = .ok (.value (.agg (a.eval x).cells)) c.w := by
   have hfill : Instr.fill (fun x => (([(0, 1, false)] : List (Nat × Nat × Bool)).toArray.map fun x => (x.1, x.2.1))[x]?) zv.cells [(0, a.eval x)] = some (a.eval x).cells := by
    have hpl : (([(0, 1, false)] : List (Nat × Nat × Bool)).toArray.map fun x => (x.1, x.2.1))[0]? = some (0, 1) := by simp
    simp only [Instr.fill, hpl]
    rw [if_neg (by simp [hvs, hzs])]
    have hz3 : (a.eval x).cells.toList.zipIdx = (a.eval x).cells.zipIdx.toList := by simp
    have h5 : (a.eval x).cells.zipIdx.foldl (fun cs (x : Value × Nat) => cs.setIfInBounds (0 + x.2) x.1) zv.cells = (a.eval x).cells := by
     rw [← Array.foldl_toList, ← hz3]; exact hl
    simp only [h5]
   simp only [execOp, Instr.build, zeroValue, typeInfo, program, Sem.run_bind, Sem.run, hi, hzv, Sem.run_pure, Result.andThen_ok, run_underlying hu, run_places ha]
   simp at hfill
   simp [hfill]
  unfold Oper.wp
  rw [hrun]
  refine hK _ _ _ hk ?_
  exact rel_put hf hG hn hdef (Adv.refl c) hI (show RepV c (.ag [evf σ.f x]) (.agg (a.eval x).cells) from ⟨(a.eval x).cells.toList, by simp, g1⟩) hd rfl (by simp [PS.put, hr]) hcl
 ·exact h.elim
end
theorem W.sregLB {E : Env} {n : Nat} {tl : Nat → Nat} {Q : PX → PS → Prop} {σ : PS} {id : Nat} {ops : List Oper} {y : Code} (i : Nat) {o o2 : Oper} (ho : ops = ops.take i ++ o :: o2 :: ops.drop (i + 2)) (hg : o.guard = none) (hg2 : o2.guard = none)
  (h : ∀ K : PS → Prop, (∀ σ, W E n tl y Q σ → K σ) → go (pops E ops (ops.take i) (fun σ => litO E o (fun σ => bldO E o2 (pops E ops (ops.drop (i + 2)) K) σ) σ) σ)) : W E n tl (.seq (.region id ops.toArray false) y) Q σ := by
 refine W.seq ?_
 intro hok w0 S0 G a w Q' hR hQ
 simp only [codeOK, regOK, Bool.and_eq_true] at hok
 have hd : ∀ o ∈ ops, ∀ t, o.dst = some t → t < n := fun o ho t ht => by
  have := Array.all_eq_true_iff_forall_mem.1 hok.1 o (by simpa using ho)
  simpa [ht] using this
 refine wp_region_list ?_
 show wpList E.P ops.toArray Q' ops a w
 have h1 := h (fun σ => W E n tl y Q σ) fun _ h => h
 have hmem : o ∈ ops := by rw [ho]; simp
 have hmem2 : o2 ∈ ops := by rw [ho]; simp
 have := pops_sound2 (E := E) (w0 := w0) (S0 := S0) (m := n) (G := G) (ops := ops.toArray) (Q := Q') (l2 := o :: o2 :: ops.drop (i + 2)) (K := fun σ => litO E o (fun σ => bldO E o2 (pops E ops (ops.drop (i + 2)) (fun σ => W E n tl y Q σ)) σ) σ) (fun σ' a' w' hl hR' => by
  unfold wpList
  rw [if_pos (by simp [Region.wanted, hg])]
  refine .inl (litO_sound hl hR' (hd o hmem) fun σ2 a2 w2 hk hR2 => ?_)
  unfold wpList
  rw [if_pos (by simp [Region.wanted, hg2])]
  refine .inl (bldO_sound hk hR2 (hd o2 hmem2) fun σ3 a3 w3 hk3 hR3 => ?_)
  exact pops_sound (E := E) (ops := ops.toArray) (fun σ4 a4 w4 hk4 hR4 => hQ .normal σ4 a4 w4 hk4 hR4) _ σ3 a3 w3 (fun o ho => hd o (List.mem_of_mem_drop ho)) hk3 hR3) (ops.take i) σ a w (fun o ho => hd o (List.mem_of_mem_take ho)) h1 hR
 rwa [← ho] at this
@[simp] theorem go_bldO {E : Env} {K : PS → Prop} {f : Nat → PV} {rows : Rows} {clk : Nat} {d : Option Tmp} {ty : TypeId} {pos : String} {af : Array Edge} {t : TypeId} {x : Operand} :
  bldO E ⟨d, .build t ⟨[(0, x)]⟩, ty, pos, af, none⟩ K ⟨f, rows, clk⟩ = stepA (E.ty t = .struct [(0, 1, false)] (E.ty t).zero ∧ (E.ty t).zero.length = 1) (optK (cellsS (evf f x)) fun l => stepA (l = [evf f x] ∧ allOne rows [evf f x]) (K ⟨put f d (.ag [evf f x]), rows, clk⟩)) := by
 simp only [bldO, stepA, optK, allOne, PS.put]
 apply propext
 constructor
 ·rintro ⟨h1, h2, h3, h4, h5⟩; exact ⟨⟨h1, h2⟩, _, h3, ⟨rfl, by simpa using h4⟩, h5⟩
 ·rintro ⟨⟨h1, h2⟩, l, h3, ⟨rfl, h4⟩, h5⟩; exact ⟨h1, h2, h3, by simpa using h4, h5⟩
end Pm
