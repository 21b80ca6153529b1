import Derived.Test.YtdiladmkbpnhoaaGreatMh
set_option linter.unusedSimpArgs false
set_option linter.unusedVariables false
namespace Pm
open Go Go.RowKit
section
variable {E : Env} {c : Cx} {w0 : World} {S0 : Stab} {m : Nat} {G : Gs}
theorem lit_run (hI : Inv w0 S0 c) {t e : TypeId} {n bb len : Nat} {z : List PV} (hE : E.ty t = .slice e n bb z) {parts : Array (Nat × Operand)} {ρ : Operand → PV} {vρ : Operand → Value} (hρ : ∀ x, RepV c (ρ x) (vρ x))
  {els : List (List PV)} (hels : partsEls n 0 (parts.toList.map fun x => (x.1, ρ x.2)) = some els) (hlen : len = els.length) (hsm : len ≤ 4096) (hn : n ≤ 4096)
  (hone : ∀ e ∈ els, ∀ p ∈ e, one1 c.rows p) :
  ∃ cells', (Instr.buildSlice t len (parts.map fun (i, x) => (i, vρ x))).run E.P c.w = .ok (.slice (some ⟨c.w.heap.size, 0, none⟩) len len) (c.w.alloc (.cells cells' e)) ∧ cells'.size = len * n ∧ All2 (RepC c) els.flatten cells'.toList ∧ (∀ u ∈ cells'.toList, u.oneCell' = true) ∧ (∀ e ∈ els, e.length = n) ∧ 0 < n := by
 obtain ⟨hu, hnp, hzl, i, zv, hi, hz, hs, _, hzc, _⟩ := slice_info hE
 obtain ⟨g1, g2, g3⟩ := partsEls_spec hels
 have hplen : parts.size = els.length := by rw [g1]; simp
 have hzsz : zv.cells.size = n := by rw [← hzl, ← hzc]; simp
 have hpart : ∀ j (x : Nat × Value), ((parts.map fun (i, x) => (i, vρ x)).toList)[j]? = some x → x.1 = 0 + j ∧ ∃ e, els[j]? = some e ∧ All2 (RepC c) e x.2.cells.toList ∧ ∀ u ∈ x.2.cells.toList, u.oneCell' = true := by
  intro j x hx
  simp at hx
  obtain ⟨a, b, hab, rfl⟩ := hx
  obtain ⟨q1, e, q2, q3⟩ := g3 j (a, ρ b) (by simp; exact ⟨a, b, hab, rfl, rfl⟩)
  have q4 := cellsS_rep (hρ b) q3 (fun q hq => hone e (List.mem_of_getElem? q2) q hq)
  exact ⟨q1, e, q2, q4.1, q4.2⟩
 obtain ⟨cells', f1, f2⟩ := fill_row (n := n) (parts.map fun (i, x) => (i, vρ x)).toList 0 ((Array.range (len * n)).map (zv.cells[· % zv.cells.size]!)) (fun j x hx => by
  obtain ⟨q1, e, q2, q3, _⟩ := hpart j x hx
  refine ⟨q1, ?_⟩
  have := q3.length
  rw [g2 e (List.mem_of_getElem? q2)] at this
  simpa using this.symm) (by simp [hplen, hlen])
 simp only [Nat.zero_mul, List.take_zero, List.nil_append] at f2
 have hrun : (Instr.buildSlice t len (parts.map fun (i, x) => (i, vρ x))).run E.P c.w = .ok (.slice (some ⟨c.w.heap.size, 0, none⟩) len len) (c.w.alloc (.cells cells' e)) := by
  have hbound : ¬ (16777216 < len * n) := by
   have : len * n ≤ 4096 * 4096 := Nat.mul_le_mul hsm hn
   omega
  by_cases h0 : len * n = 0
  ·have hl0 : len = 0 := by
    rcases Nat.mul_eq_zero.1 h0 with h | h
    ·exact h
    ·omega
   have hp0 : parts = #[] := Array.eq_empty_of_size_eq_zero (by omega)
   subst hp0
   subst hl0
   simp [Instr.fill] at f1
   subst f1
   have hr0 : Array.range 0 = #[] := rfl
   simp [Instr.buildSlice, run_underlying hu, run_sizeOf' hi, newRow, Instr.fill, hr0]
  ·have f1' : Instr.fill (fun i => some (i * n, n)) ((Array.range (len * n)).map (zv.cells[· % zv.cells.size]!)) (parts.toList.map fun x => (x.1, vρ x.2)) = some cells' := by simpa using f1
   simp only [Instr.buildSlice, Sem.run_bind, run_underlying hu, Result.andThen_ok, run_sizeOf' hi, hs]
   simp [h0, hbound, newRow, zeroValue, typeInfo, hi, hz, f1']
 have e3 : cells'.toList = ((parts.map fun (i, x) => (i, vρ x)).toList.map fun x => x.2.cells.toList).flatten := by rw [f2, List.flatMap_def]
 have key : ∀ (vs : List (Nat × Value)) (es : List (List PV)), vs.length = es.length → (∀ (j : Nat) (x : Nat × Value), vs[j]? = some x → ∃ e, es[j]? = some e ∧ All2 (RepC c) e x.2.cells.toList ∧ ∀ u ∈ x.2.cells.toList, u.oneCell' = true) →
   All2 (RepC c) es.flatten (vs.map fun x => x.2.cells.toList).flatten ∧ ∀ u ∈ (vs.map fun x => x.2.cells.toList).flatten, u.oneCell' = true := by
  intro vs
  induction vs with
  | nil =>
   intro es hl _
   have : es = [] := List.eq_nil_of_length_eq_zero hl.symm
   subst this
   exact ⟨trivial, by simp⟩
  | cons v vs ih =>
   intro es hl h
   match es, hl with
   | e :: es, hl =>
    obtain ⟨h1, h2⟩ := ih es (by simpa using hl) fun j x hx => by simpa using h (j + 1) x (by simpa using hx)
    obtain ⟨e', q1, q2, q3⟩ := h 0 v (by simp)
    simp at q1; subst q1
    simp only [List.flatten_cons, List.map_cons]
    refine ⟨All2.append q2 h1, fun u hu => ?_⟩
    rcases List.mem_append.1 hu with hu | hu
    ·exact q3 u hu
    ·exact h2 u hu
 obtain ⟨k1, k2⟩ := key (parts.map fun (i, x) => (i, vρ x)).toList els (by simp [hplen]) fun j x hx => (hpart j x hx).2
 rw [← e3] at k1 k2
 refine ⟨cells', hrun, ?_, k1, k2, g2, hnp⟩
 have h5 := k1.length
 have fl : ∀ {l : List (List PV)}, (∀ e ∈ l, e.length = n) → l.flatten.length = l.length * n := by
  intro l
  induction l with
  | nil => intro _; simp
  | cons e l ih => intro h; rw [List.flatten_cons, List.length_append, ih (fun e he => h e (by simp [he])), h e (by simp), List.length_cons, Nat.add_mul]; omega
 rw [fl g2, Array.length_toList] at h5
 rw [hlen]; exact h5.symm
def litO (E : Env) (o : Oper) (K : PS → Prop) (σ : PS) : Prop :=
 match o.op with
 | .buildSlice t len parts =>
  match E.ty t with
  | .slice e n _ _ => ∃ els, partsEls n 0 (parts.toList.map fun x => (x.1, evf σ.f x.2)) = some els ∧ len = els.length ∧ len ≤ 4096 ∧ n ≤ 4096 ∧ (∀ x ∈ els, ∀ p ∈ x, one1 σ.rows p) ∧
    pnew K σ o.dst (.own (o.dst.getD 0) σ.clock 0 els.length) (o.dst.getD 0) e n els
  | _ => False
 | _ => False
theorem litO_sound {o : Oper} {a : Act} {w : World} {σ : PS} {K : PS → Prop} (h : litO E o K σ) (hR : Rel w0 S0 m G σ a w) (hd : ∀ t, o.dst = some t → t < m)
  {K' : Act → World → Prop} {Q : Exit → Act → World → Prop} (hK : ∀ σ' a' w', K σ' → Rel w0 S0 m G σ' a' w' → K' a' w') : o.wp E.P a w K' Q := by
 obtain ⟨⟨c, rfl, hr, hcl, hI, hf, hG⟩, hn, hdef⟩ := hR
 have hρ := evf_rep hf
 obtain ⟨dst, op, type, pos, after, guard⟩ := o
 simp only at hd
 unfold litO at h
 simp only at h
 split at h
 ·rename_i t len parts
  split at h
  ·rename_i e n b z hE
   obtain ⟨els, h1, h2, h3, h4, h5, h⟩ := h
   rw [← hr] at h5
   obtain ⟨cells', g1, g2, g3, g4, g5, g6⟩ := lit_run hI hE hρ h1 h2 h3 h4 h5
   obtain ⟨hI', hA⟩ := new_block hI (ver := σ.clock) (fun hu => Nat.lt_irrefl _ (hcl _ hu)) (dst.getD 0) e n els.length els.length els cells' rfl (Nat.le_refl _) (by simp only [maxLen]; omega) (by rw [g2, h2]) (by
    rw [List.take_of_length_le (by rw [Array.length_toList, g2, h2]; exact Nat.le_refl _)]; exact g3) g4 g5 g6
   obtain ⟨f', rows', hk', hrel⟩ := pnew_rel (K := fun f' r' => K ⟨f', r', σ.clock + 1⟩) hr hcl hf hG hn hdef h hI' hA (repV_new (r := ⟨σ.clock, e, n, els⟩) (A := some ⟨c.w.heap.size, 0, none⟩) (cap := els.length) (by simp [upd]) rfl (Or.inl rfl) (by simp [upd])) hd
   unfold Oper.wp
   have : (execOp a.eval { dst := dst, op := .buildSlice t len parts, type := type, pos := pos, after := after, guard := guard }).run E.P c.w = .ok (.value (.slice (some ⟨c.w.heap.size, 0, none⟩) els.length els.length)) (c.w.alloc (.cells cells' e)) := by
    rw [h2] at g1
    simp only [execOp, Sem.run_bind, h2, g1, Result.andThen_ok, Sem.run_pure]
   rw [this]
   refine hK _ _ _ hk' (hrel.mono fun v hv => ?_)
   show v < σ.clock + 1
   rcases hv with rfl | hv
   ·omega
   ·have : v < σ.clock := hv
    omega
  ·exact h.elim
 ·exact h.elim
theorem pops_sound2 {ops : Array Oper} {K : PS → Prop} {Q : Exit → Act → World → Prop} {l2 : List Oper} (hK : ∀ σ' a' w', K σ' → Rel w0 S0 m G σ' a' w' → wpList E.P ops Q l2 a' w') :
  ∀ (l : List Oper) (σ : PS) (a : Act) (w : World), (∀ o ∈ l, ∀ t, o.dst = some t → t < m) → pops E ops.toList l K σ → Rel w0 S0 m G σ a w → wpList E.P ops Q (l ++ l2) a w
 | [], σ, a, w, _, h, hR => hK _ _ _ h hR
 | o :: os, σ, a, w, hd, h, hR => by
  have hdo := hd o (by simp)
  have hds : ∀ o ∈ os, ∀ t, o.dst = some t → t < m := fun o ho => hd o (by simp [ho])
  have wanted : ∀ {σ}, pfree E o (pops E ops.toList os K) σ → Rel w0 S0 m G σ a w → o.wp E.P a w (wpList E.P ops Q (os ++ l2)) Q := fun hp hR =>
   pfree_sound hp hR hdo fun σ' a' w' hk hR' => pops_sound2 hK os σ' a' w' hds hk hR'
  show wpList E.P ops Q (o :: (os ++ l2)) a w
  unfold wpList
  simp only [pops] at h
  split at h
  ·rename_i hg
   rw [if_pos (by simp [Region.wanted, hg])]
   exact .inl (wanted h hR)
  ·rename_i j want hg
   split at h
   ·exact h.elim
   ·rename_i d hd2
    have hd3 : (ops[j]?).bind (·.dst) = some d := by simpa using hd2
    have skip : yielded ops a.tmps j ≠ some want → pops E ops.toList os K (σ.put o.dst (.tup [])) → (if Region.wanted o (yielded ops a.tmps) = true then o.wp E.P a w (wpList E.P ops Q (os ++ l2)) Q ∨ (o.asks E.P a w ∧ LetsOut Q) else wpList E.P ops Q (os ++ l2) (a.put o.dst undef) w) := by
     intro hy h2
     rw [if_neg (by simpa [Region.wanted, hg] using hy)]
     refine pops_sound2 hK os _ _ w hds h2 ?_
     obtain ⟨⟨c, rfl, hr, hcl, hI, hf, hG⟩, hn, hdef⟩ := hR
     exact rel_put hf hG hn hdef (Adv.refl c) hI rep_no hdo rfl (by simp [PS.put, hr]) hcl
    obtain ⟨c, _, _, _, _, hf, _⟩ := hR.ex
    have hx := hf d
    rcases h with ⟨h1, h2⟩ | ⟨h1 | h1, h2⟩
    ·rw [h1] at hx
     rw [if_pos (by simp [Region.wanted, hg, yielded_bool hd3 hx])]
     exact .inl (wanted h2 hR)
    ·rw [h1] at hx
     exact skip (by rw [yielded_bool hd3 hx]; cases want <;> simp) h2
    ·rw [h1] at hx
     exact skip (by rw [yielded_no hd3 hx]; simp) h2
end
theorem W.sregL {E : Env} {n : Nat} {tl : Nat → Nat} {Q : PX → PS → Prop} {σ : PS} {id : Nat} {ops : List Oper} {y : Code} (i : Nat) {o : Oper} (ho : ops = ops.take i ++ o :: ops.drop (i + 1)) (hg : o.guard = none)
  (h : ∀ K : PS → Prop, (∀ σ, W E n tl y Q σ → K σ) → go (pops E ops (ops.take i) (fun σ => litO E o (pops E ops (ops.drop (i + 1)) K) σ) σ)) : W E n tl (.seq (.region id ops.toArray false) y) Q σ := by
 refine W.seq ?_
 intro hok w0 S0 G a w Q' hR hQ
 simp only [codeOK, regOK, Bool.and_eq_true] at hok
 have hd : ∀ o ∈ ops, ∀ t, o.dst = some t → t < n := fun o ho t ht => by
  have := Array.all_eq_true_iff_forall_mem.1 hok.1 o (by simpa using ho)
  simpa [ht] using this
 refine wp_region_list ?_
 show wpList E.P ops.toArray Q' ops a w
 have h1 := h (fun σ => W E n tl y Q σ) fun _ h => h
 have hmem : o ∈ ops := by rw [ho]; simp
 have := pops_sound2 (E := E) (w0 := w0) (S0 := S0) (m := n) (G := G) (ops := ops.toArray) (Q := Q') (l2 := o :: ops.drop (i + 1)) (K := fun σ => litO E o (pops E ops (ops.drop (i + 1)) (fun σ => W E n tl y Q σ)) σ) (fun σ' a' w' hl hR' => by
  unfold wpList
  rw [if_pos (by simp [Region.wanted, hg])]
  refine .inl (litO_sound hl hR' (hd o hmem) fun σ2 a2 w2 hk hR2 => ?_)
  exact pops_sound (E := E) (ops := ops.toArray) (fun σ3 a3 w3 hk3 hR3 => hQ .normal σ3 a3 w3 hk3 hR3) _ σ2 a2 w2 (fun o ho => hd o (List.mem_of_mem_drop ho)) hk hR2) (ops.take i) σ a w (fun o ho => hd o (List.mem_of_mem_take ho)) h1 hR
 rwa [← ho] at this
def litOK' (ti : TI) (rows : Rows) (len : Nat) (ps : List (Nat × PV)) (K : TypeId → Nat → List (List PV) → Prop) : Prop :=
 match ti with
 | .slice e n _ _ => partsK n 0 ps fun els => stepA (len = els.length ∧ len ≤ 4096 ∧ n ≤ 4096 ∧ allOne rows els.flatten) (K e n els)
 | _ => False
@[congr] theorem litOK'_congr {t t' : TI} {rows rows' : Rows} {len : Nat} {ps ps' : List (Nat × PV)} {K : TypeId → Nat → List (List PV) → Prop} (h : t = t') (h2 : ps = ps') (h3 : rows = rows') : litOK' t rows len ps K = litOK' t' rows' len ps' K := by rw [h, h2, h3]
@[simp] theorem litOK'_slice {e n b : Nat} {z : List PV} {rows : Rows} {len : Nat} {ps : List (Nat × PV)} {K : TypeId → Nat → List (List PV) → Prop} : litOK' (.slice e n b z) rows len ps K = partsK n 0 ps fun els => stepA (len = els.length ∧ len ≤ 4096 ∧ n ≤ 4096 ∧ allOne rows els.flatten) (K e n els) := rfl
@[simp] theorem go_litO {E : Env} {K : PS → Prop} {f : Nat → PV} {rows : Rows} {clk : Nat} {d : Option Tmp} {ty : TypeId} {pos : String} {af : Array Edge} {t : TypeId} {len : Nat} {parts : Array (Nat × Operand)} :
  litO E ⟨d, .buildSlice t len parts, ty, pos, af, none⟩ K ⟨f, rows, clk⟩ = litOK' (E.ty t) rows len (parts.toList.map fun x => (x.1, evf f x.2)) fun e n els => K ⟨put f d (.own (d.getD 0) clk 0 els.length), upd rows (d.getD 0) (some ⟨clk, e, n, els⟩), clk + 1⟩ := by
 simp only [litO, litOK']
 generalize E.ty t = T
 cases T with
 | slice e n b z =>
  simp only
  rw [← parts_iff]
  simp only [stepA, pnew, allOne]
  apply propext
  constructor
  ·rintro ⟨els, h1, h2, h3, h4, h5, h6⟩
   exact ⟨els, h1, ⟨h2, h3, h4, fun q hq => by obtain ⟨x, hx, hq⟩ := List.mem_flatten.1 hq; exact h5 x hx q hq⟩, h6⟩
  ·rintro ⟨els, h1, ⟨h2, h3, h4, h5⟩, h6⟩
   exact ⟨els, h1, h2, h3, h4, fun x hx q hq => h5 q (List.mem_flatten.2 ⟨x, hx, hq⟩), h6⟩
 | _ => rfl
def WP (p q : PV) : Prop := ∀ (S : Stab) (w : World) (v : Value), Rep S w p v → Rep S w q v
theorem WP.refl (p : PV) : WP p p := fun _ _ _ h => h
theorem WP.nil : WP .nil (.sl []) := fun S w v h => by
 simp only [Rep] at h ⊢
 exact ⟨none, 0, h, Nat.le_refl _, by simp [maxLen], by simp⟩
theorem WP.cells {S : Stab} {w : World} : ∀ {l m : List PV} {b o : Nat}, All2 WP l m → RepCells S w b o l → RepCells S w b o m
 | [], [], _, _, _, _ => by simp [RepCells]
 | p :: ps, q :: qs, b, o, hh, h => by
  simp only [RepCells] at h ⊢
  obtain ⟨⟨v, h1, h2, h3, h4⟩, h5⟩ := h
  exact ⟨⟨v, h1, h2, h3, hh.1 S w v h4⟩, WP.cells hh.2 h5⟩
 | [], _ :: _, _, _, hh, _ => hh.elim
 | _ :: _, [], _, _, hh, _ => hh.elim
theorem WP.els {S : Stab} {w : World} : ∀ {l m : List (List PV)} {b o : Nat}, All2 (All2 WP) l m → RepEls S w b o l → RepEls S w b o m
 | [], [], _, _, _, _ => by simp [RepEls]
 | e :: es, d :: ds, b, o, hh, h => by
  simp only [RepEls] at h ⊢
  rw [← hh.1.length]
  exact ⟨WP.cells hh.1 h.1, WP.els hh.2 h.2⟩
 | [], _ :: _, _, _, hh, _ => hh.elim
 | _ :: _, [], _, _, hh, _ => hh.elim
theorem WP.sl {l m : List (List PV)} (hh : All2 (All2 WP) l m) : WP (.sl l) (.sl m) := fun S w v h => by
 have hl := hh.length
 simp only [Rep] at h ⊢
 obtain ⟨a, cap, h1, h2, h3, h4⟩ := h
 rw [← hl]
 refine ⟨a, cap, h1, h2, h3, ?_⟩
 rcases h4 with h4 | ⟨b, o, h4, h5⟩
 ·subst h4
  exact .inl (List.eq_nil_of_length_eq_zero hl.symm)
 ·exact .inr ⟨b, o, h4, WP.els hh h5⟩
theorem WP.list {S : Stab} {w : World} : ∀ {ps qs : List PV} {vs : List Value}, All2 WP ps qs → RepList S w ps vs → RepList S w qs vs
 | [], [], vs, _, h => h
 | p :: ps, q :: qs, vs, hh, h => by
  simp only [RepList] at h ⊢
  obtain ⟨v, vs', rfl, h1, h2⟩ := h
  exact ⟨v, vs', rfl, hh.1 S w v h1, WP.list hh.2 h2⟩
 | [], _ :: _, _, hh, _ => hh.elim
 | _ :: _, [], _, hh, _ => hh.elim
theorem retW {P : Program} {f : FuncId} {args args' : List PV} {r : PV} (h : Ret P f args r) (hw : All2 WP args' args) : Ret P f args' r :=
 ⟨h.1, fun w S vs hS hr => h.2 w S vs hS (WP.list hw hr)⟩
end Pm
