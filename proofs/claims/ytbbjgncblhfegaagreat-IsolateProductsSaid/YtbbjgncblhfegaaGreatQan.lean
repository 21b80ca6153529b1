import Derived.Test.YtbbjgncblhfegaaGreatQah
import Derived.Test.YtbbjgncblhfegaaGreatQak
import Derived.Test.YtbbjgncblhfegaaGreatQam
set_option linter.unusedSimpArgs false
set_option linter.unusedVariables false
namespace Pm
open Go Go.RowKit
section
variable {E : Env} {c : Cx} {w0 : World} {S0 : dB} {m : Nat} {G : Gs}
theorem adQ (hI : Inv w0 S0 c) {t e : TypeId} {n bb len : Nat} {z : List PV} (hE : E.ty t = .slice e n bb z) {parts : Array (Nat × Operand)} {ρ : Operand → PV} {vρ : Operand → Value} (hρ : ∀ x, aI c (ρ x) (vρ x))
  {els : List (List PV)} (yB : fN n 0 (parts.toList.map fun x => (x.1, ρ x.2)) = some els) (hlen : len = els.length) (hsm : len ≤ 4096) (hn : n ≤ 4096)
  (gO : ∀ e ∈ els, ∀ p ∈ e, gN c.rows p) :
  ∃ bX, (Instr.buildSlice t len (parts.map fun (i, x) => (i, vρ x))).run E.P c.w = .ok (.slice (some ⟨c.w.heap.size, 0, none⟩) len len) (c.w.alloc (.cells bX e)) ∧ bX.size = len * n ∧ a7 (aP c) els.flatten bX.toList ∧ (∀ u ∈ bX.toList, u.oneCell' = true) ∧ (∀ e ∈ els, e.length = n) ∧ 0 < n := by
 obtain ⟨hu, hnp, DV, i, zv, hi, hz, hs, _, K2, _⟩ := eJ hE
 obtain ⟨g1, g2, g3⟩ := mE yB
 have OE : parts.size = els.length := by rw [g1]; simp
 have ard : zv.cells.size = n := by rw [← DV, ← K2]; simp
 have B4 : ∀ j (x : Nat × Value), ((parts.map fun (i, x) => (i, vρ x)).toList)[j]? = some x → x.1 = 0 + j ∧ ∃ e, els[j]? = some e ∧ a7 (aP c) e x.2.cells.toList ∧ ∀ u ∈ x.2.cells.toList, u.oneCell' = true := by
  intro j x hx
  simp at hx
  obtain ⟨a, b, fH, rfl⟩ := hx
  obtain ⟨q1, e, q2, q3⟩ := g3 j (a, ρ b) (by simp; exact ⟨a, b, fH, rfl, rfl⟩)
  have q4 := kN (hρ b) q3 (fun q hq => gO e (List.mem_of_getElem? q2) q hq)
  exact ⟨q1, e, q2, q4.1, q4.2⟩
 obtain ⟨bX, f1, f2⟩ := yE (n := n) (parts.map fun (i, x) => (i, vρ x)).toList 0 ((Array.range (len * n)).map (zv.cells[· % zv.cells.size]!)) (fun j x hx => by
  obtain ⟨q1, e, q2, q3, _⟩ := B4 j x hx
  refine ⟨q1, ?_⟩
  have := q3.length
  rw [g2 e (List.mem_of_getElem? q2)] at this
  simpa using this.symm) (by simp [OE, hlen])
 simp only [Nat.zero_mul, List.take_zero, List.nil_append] at f2
 have iU : (Instr.buildSlice t len (parts.map fun (i, x) => (i, vρ x))).run E.P c.w = .ok (.slice (some ⟨c.w.heap.size, 0, none⟩) len len) (c.w.alloc (.cells bX e)) := by
  have hbound : ¬ (16777216 < len * n) := by
   have : len * n ≤ 4096 * 4096 := Nat.mul_le_mul hsm hn
   omega
  by_cases h0 : len * n = 0
  ·have wX : len = 0 := by
    rcases Nat.mul_eq_zero.1 h0 with h | h
    ·exact h
    ·omega
   have hp0 : parts = #[] := Array.eq_empty_of_size_eq_zero (by omega)
   subst hp0
   subst wX
   simp [Instr.fill] at f1
   subst f1
   have KE : Array.range 0 = #[] := rfl
   simp [Instr.buildSlice, run_underlying hu, cQ hi, newRow, Instr.fill, KE]
  ·have f1' : Instr.fill (fun i => some (i * n, n)) ((Array.range (len * n)).map (zv.cells[· % zv.cells.size]!)) (parts.toList.map fun x => (x.1, vρ x.2)) = some bX := by simpa using f1
   simp only [Instr.buildSlice, Sem.run_bind, run_underlying hu, Result.andThen_ok, cQ hi, hs]
   simp [h0, hbound, newRow, zeroValue, typeInfo, hi, hz, f1']
 have e3 : bX.toList = ((parts.map fun (i, x) => (i, vρ x)).toList.map fun x => x.2.cells.toList).flatten := by rw [f2, List.flatMap_def]
 have key : ∀ (vs : List (Nat × Value)) (es : List (List PV)), vs.length = es.length → (∀ (j : Nat) (x : Nat × Value), vs[j]? = some x → ∃ e, es[j]? = some e ∧ a7 (aP c) e x.2.cells.toList ∧ ∀ u ∈ x.2.cells.toList, u.oneCell' = true) →
   a7 (aP c) es.flatten (vs.map fun x => x.2.cells.toList).flatten ∧ ∀ u ∈ (vs.map fun x => x.2.cells.toList).flatten, u.oneCell' = true := by
  intro vs
  induction vs with
  | nil =>
   intro es hl _
   have : es = [] := List.eq_nil_of_length_eq_zero hl.symm
   subst this
   exact ⟨trivial, by simp⟩
  | cons v vs ih =>
   intro es hl h
   match es, hl with
   | e :: es, hl =>
    obtain ⟨h1, h2⟩ := ih es (by simpa using hl) fun j x hx => by simpa using h (j + 1) x (by simpa using hx)
    obtain ⟨e', q1, q2, q3⟩ := h 0 v (by simp)
    simp at q1; subst q1
    simp only [List.flatten_cons, List.map_cons]
    refine ⟨a7.append q2 h1, fun u hu => ?_⟩
    rcases List.mem_append.1 hu with hu | hu
    ·exact q3 u hu
    ·exact h2 u hu
 obtain ⟨k1, k2⟩ := key (parts.map fun (i, x) => (i, vρ x)).toList els (by simp [OE]) fun j x hx => (B4 j x hx).2
 rw [← e3] at k1 k2
 refine ⟨bX, iU, ?_, k1, k2, g2, hnp⟩
 have h5 := k1.length
 have fl : ∀ {l : List (List PV)}, (∀ e ∈ l, e.length = n) → l.flatten.length = l.length * n := by
  intro l
  induction l with
  | nil => intro _; simp
  | cons e l ih => intro h; rw [List.flatten_cons, List.length_append, ih (fun e he => h e (by simp [he])), h e (by simp), List.length_cons, Nat.add_mul]; omega
 rw [fl g2, Array.length_toList] at h5
 rw [hlen]; exact h5.symm
def BL (E : Env) (o : Oper) (K : PS → Prop) (σ : PS) : Prop :=
 match o.op with
 | .buildSlice t len parts =>
  match E.ty t with
  | .slice e n _ _ => ∃ els, fN n 0 (parts.toList.map fun x => (x.1, aQ σ.f x.2)) = some els ∧ len = els.length ∧ len ≤ 4096 ∧ n ≤ 4096 ∧ (∀ x ∈ els, ∀ p ∈ x, gN σ.rows p) ∧
    DW K σ o.dst (.own (o.dst.getD 0) σ.clock 0 els.length) (o.dst.getD 0) e n els
  | _ => False
 | _ => False
theorem r5 {o : Oper} {a : Act} {w : World} {σ : PS} {K : PS → Prop} (h : BL E o K σ) (hR : Rel w0 S0 m G σ a w) (hd : ∀ t, o.dst = some t → t < m)
  {K' : Act → World → Prop} {Q : Exit → Act → World → Prop} (hK : ∀ σ' a' w', K σ' → Rel w0 S0 m G σ' a' w' → K' a' w') : o.wp E.P a w K' Q := by
 obtain ⟨⟨c, rfl, hr, eT, hI, hf, hG⟩, hn, eK⟩ := hR
 have hρ := kD hf
 obtain ⟨dst, op, type, pos, after, guard⟩ := o
 simp only at hd
 unfold BL at h
 simp only at h
 split at h
 ·rename_i t len parts
  split at h
  ·rename_i e n b z hE
   obtain ⟨els, h1, h2, h3, h4, h5, h⟩ := h
   rw [← hr] at h5
   obtain ⟨bX, g1, g2, g3, g4, g5, g6⟩ := adQ hI hE hρ h1 h2 h3 h4 h5
   obtain ⟨uG, hA⟩ := uQ hI (ver := σ.clock) (fun hu => Nat.lt_irrefl _ (eT _ hu)) (dst.getD 0) e n els.length els.length els bX rfl (Nat.le_refl _) (by simp only [maxLen]; omega) (by rw [g2, h2]) (by
    rw [List.take_of_length_le (by rw [Array.length_toList, g2, h2]; exact Nat.le_refl _)]; exact g3) g4 g5 g6
   obtain ⟨f', rows', vJ, yH⟩ := oQ (K := fun f' r' => K ⟨f', r', σ.clock + 1⟩) hr eT hf hG hn eK h uG hA (jY (r := ⟨σ.clock, e, n, els⟩) (A := some ⟨c.w.heap.size, 0, none⟩) (cap := els.length) (by simp [dE]) rfl (Or.inl rfl) (by simp [dE])) hd
   unfold Oper.wp
   have : (execOp a.eval { dst := dst, op := .buildSlice t len parts, type := type, pos := pos, after := after, guard := guard }).run E.P c.w = .ok (.value (.slice (some ⟨c.w.heap.size, 0, none⟩) els.length els.length)) (c.w.alloc (.cells bX e)) := by
    rw [h2] at g1
    simp only [execOp, Sem.run_bind, h2, g1, Result.andThen_ok, Sem.run_pure]
   rw [this]
   refine hK _ _ _ vJ (yH.mono fun v hv => ?_)
   show v < σ.clock + 1
   rcases hv with rfl | hv
   ·omega
   ·have : v < σ.clock := hv
    omega
  ·exact h.elim
 ·exact h.elim
theorem lZ {ops : Array Oper} {K : PS → Prop} {Q : Exit → Act → World → Prop} {l2 : List Oper} (hK : ∀ σ' a' w', K σ' → Rel w0 S0 m G σ' a' w' → wpList E.P ops Q l2 a' w') :
  ∀ (l : List Oper) (σ : PS) (a : Act) (w : World), (∀ o ∈ l, ∀ t, o.dst = some t → t < m) → aK E ops.toList l K σ → Rel w0 S0 m G σ a w → wpList E.P ops Q (l ++ l2) a w
 | [], σ, a, w, _, h, hR => hK _ _ _ h hR
 | o :: os, σ, a, w, hd, h, hR => by
  have hdo := hd o (by simp)
  have hds : ∀ o ∈ os, ∀ t, o.dst = some t → t < m := fun o ho => hd o (by simp [ho])
  have wanted : ∀ {σ}, dR E o (aK E ops.toList os K) σ → Rel w0 S0 m G σ a w → o.wp E.P a w (wpList E.P ops Q (os ++ l2)) Q := fun hp hR =>
   vQ hp hR hdo fun σ' a' w' hk jZ => lZ hK os σ' a' w' hds hk jZ
  show wpList E.P ops Q (o :: (os ++ l2)) a w
  unfold wpList
  simp only [aK] at h
  split at h
  ·rename_i hg
   rw [if_pos (by simp [Region.wanted, hg])]
   exact .inl (wanted h hR)
  ·rename_i j want hg
   split at h
   ·exact h.elim
   ·rename_i d RS
    have hd3 : (ops[j]?).bind (·.dst) = some d := by simpa using RS
    have skip : yielded ops a.tmps j ≠ some want → aK E ops.toList os K (σ.put o.dst (.eN [])) → (if Region.wanted o (yielded ops a.tmps) = true then o.wp E.P a w (wpList E.P ops Q (os ++ l2)) Q ∨ (o.asks E.P a w ∧ LetsOut Q) else wpList E.P ops Q (os ++ l2) (a.put o.dst undef) w) := by
     intro hy h2
     rw [if_neg (by simpa [Region.wanted, hg] using hy)]
     refine lZ hK os _ _ w hds h2 ?_
     obtain ⟨⟨c, rfl, hr, eT, hI, hf, hG⟩, hn, eK⟩ := hR
     exact lK hf hG hn eK (rF.refl c) hI LB hdo rfl (by simp [PS.put, hr]) eT
    obtain ⟨c, _, _, _, _, hf, _⟩ := hR.ex
    have hx := hf d
    rcases h with ⟨h1, h2⟩ | ⟨h1 | h1, h2⟩
    ·rw [h1] at hx
     rw [if_pos (by simp [Region.wanted, hg, fZ hd3 hx])]
     exact .inl (wanted h2 hR)
    ·rw [h1] at hx
     exact skip (by rw [fZ hd3 hx]; cases want <;> simp) h2
    ·rw [h1] at hx
     exact skip (by rw [rN hd3 hx]; simp) h2
end
theorem W.af6 {E : Env} {n : Nat} {tl : Nat → Nat} {Q : PX → PS → Prop} {σ : PS} {id : Nat} {ops : List Oper} {y : Code} (i : Nat) {o : Oper} (ho : ops = ops.take i ++ o :: ops.drop (i + 1)) (hg : o.guard = none)
  (h : ∀ K : PS → Prop, (∀ σ, W E n tl y Q σ → K σ) → go (aK E ops (ops.take i) (fun σ => BL E o (aK E ops (ops.drop (i + 1)) K) σ) σ)) : W E n tl (.seq (.region id ops.toArray false) y) Q σ := by
 refine W.seq ?_
 intro fF w0 S0 G a w Q' hR hQ
 simp only [eB, oT, Bool.and_eq_true] at fF
 have hd : ∀ o ∈ ops, ∀ t, o.dst = some t → t < n := fun o ho t ht => by
  have := Array.all_eq_true_iff_forall_mem.1 fF.1 o (by simpa using ho)
  simpa [ht] using this
 refine wp_region_list ?_
 show wpList E.P ops.toArray Q' ops a w
 have h1 := h (fun σ => W E n tl y Q σ) fun _ h => h
 have rL : o ∈ ops := by rw [ho]; simp
 have := lZ (E := E) (w0 := w0) (S0 := S0) (m := n) (G := G) (ops := ops.toArray) (Q := Q') (l2 := o :: ops.drop (i + 1)) (K := fun σ => BL E o (aK E ops (ops.drop (i + 1)) (fun σ => W E n tl y Q σ)) σ) (fun σ' a' w' hl jZ => by
  unfold wpList
  rw [if_pos (by simp [Region.wanted, hg])]
  refine .inl (r5 hl jZ (hd o rL) fun σ2 a2 w2 hk hR2 => ?_)
  exact fO (E := E) (ops := ops.toArray) (fun σ3 a3 w3 hk3 hR3 => hQ .normal σ3 a3 w3 hk3 hR3) _ σ2 a2 w2 (fun o ho => hd o (List.mem_of_mem_drop ho)) hk hR2) (ops.take i) σ a w (fun o ho => hd o (List.mem_of_mem_take ho)) h1 hR
 rwa [← ho] at this
def AE (ti : TI) (rows : Rows) (len : Nat) (ps : List (Nat × PV)) (K : TypeId → Nat → List (List PV) → Prop) : Prop :=
 match ti with
 | .slice e n _ _ => gZ n 0 ps fun els => aH (len = els.length ∧ len ≤ 4096 ∧ n ≤ 4096 ∧ fP rows els.flatten) (K e n els)
 | _ => False
@[congr] theorem adR {t t' : TI} {rows rows' : Rows} {len : Nat} {ps OV : List (Nat × PV)} {K : TypeId → Nat → List (List PV) → Prop} (h : t = t') (h2 : ps = OV) (h3 : rows = rows') : AE t rows len ps K = AE t' rows' len OV K := by rw [h, h2, h3]
@[simp] theorem adS {e n b : Nat} {z : List PV} {rows : Rows} {len : Nat} {ps : List (Nat × PV)} {K : TypeId → Nat → List (List PV) → Prop} : AE (.slice e n b z) rows len ps K = gZ n 0 ps fun els => aH (len = els.length ∧ len ≤ 4096 ∧ n ≤ 4096 ∧ fP rows els.flatten) (K e n els) := rfl
@[simp] theorem aqC {E : Env} {K : PS → Prop} {f : Nat → PV} {rows : Rows} {clk : Nat} {d : Option Tmp} {ty : TypeId} {pos : String} {af : Array Edge} {t : TypeId} {len : Nat} {parts : Array (Nat × Operand)} :
  BL E ⟨d, .buildSlice t len parts, ty, pos, af, none⟩ K ⟨f, rows, clk⟩ = AE (E.ty t) rows len (parts.toList.map fun x => (x.1, aQ f x.2)) fun e n els => K ⟨put f d (.own (d.getD 0) clk 0 els.length), dE rows (d.getD 0) (some ⟨clk, e, n, els⟩), clk + 1⟩ := by
 simp only [BL, AE]
 generalize E.ty t = T
 cases T with
 | slice e n b z =>
  simp only
  rw [← uR]
  simp only [aH, DW, fP]
  apply propext
  constructor
  ·rintro ⟨els, h1, h2, h3, h4, h5, h6⟩
   exact ⟨els, h1, ⟨h2, h3, h4, fun q hq => by obtain ⟨x, hx, hq⟩ := List.mem_flatten.1 hq; exact h5 x hx q hq⟩, h6⟩
  ·rintro ⟨els, h1, ⟨h2, h3, h4, h5⟩, h6⟩
   exact ⟨els, h1, h2, h3, h4, fun x hx q hq => h5 q (List.mem_flatten.2 ⟨x, hx, hq⟩), h6⟩
 | _ => rfl
end Pm
namespace Go.Proofs.YtbbjgncblhfegaaGreat
open Go Pm
def rz (a c : ZX) : ZX := ZX.of (rq c.l (a.l.length + 1) a.l)
theorem qG {a c : ZX} (hc : c ≠ 0) : (rz a c).l = rq c.l (a.l.length + 1) a.l ∧ ZX.N (rz a c) < ZX.N c ∧ ∃ (m : Int) (q : ZX), m ≠ 0 ∧ ZX.K m * a = q * c + ZX.K 1 * rz a c := by
 obtain ⟨h1, h2, m, q, hm, h3⟩ := QC c.c (ZX.aG.1 hc) (a.l.length + 1) a.l a.c (by omega)
 have e : (rz a c).l = rq c.l (a.l.length + 1) a.l := h1
 refine ⟨e, by show (rz a c).l.length < c.l.length; rw [e]; exact h2, m, ZX.of q, hm, ZX.ext fun t => ?_⟩
 rw [ZX.c7, ZX.rW, ZX.j5, ZX.c7, ZX.c7, ZX.rW, ZX.M0, e, h3 t]; omega
theorem QD {s n : Nat} {a c : ZX} (ha : BZ s n a) (hb : BZ s n c) (hc : c ≠ 0) : BZ (s + (ZX.N a + 1 - ZX.N c) * (s + n + 1)) n (rz a c) := by
 have h := af5 hb (ZX.aG.1 hc) (a.l.length + 1) (ZX.N a + 1 - ZX.N c) s a.l ha (by show ZX.N a + 1 ≤ ZX.N c + _; omega)
 rw [← (qG hc).1] at h
 exact h
theorem C8 {s n C : Nat} {a c : ZX} (b : BZ s n a) (b' : BZ s n c) (hP : u4 C n s (nf a) (nf c)) (hn : n ≤ 20) (hC : C ≤ 4500000000) (h1 : 1 ≤ s) : aL env.P 171 [PI a.l, PI c.l] (PI (gz a c).l) := by
 have hs := hP.le
 have p1 := jT b h1 (by show s ≤ 137438953472; omega) (by omega)
 have p2 := jT b' h1 (by show s ≤ 137438953472; omega) (by omega)
 have b1 := b.nf
 have b2 := b'.nf
 have hg : gz (nf a) (nf c) = gz a c := by rw [af0, M4]
 have hx1 := P3 a
 rw [← hg]
 generalize n8 : nf a = x0 at *
 generalize MD : nf c = y0 at *
 generalize hG : gz x0 y0 = G at *
 refine aB (E := env) (fun _ => 0) [(0, PI a.l), (1, PI c.l)] Tryz.func171 rfl (by kernel_rfl) (by kernel_rfl) (show 2 ≤ 18 by decide) (by simp) ?_
 generalize a.l = al at *
 generalize c.l = cl at *
 refine W.sr ?_; simp (disch := omega) [gw]; refine W.lx [0, 1] ?_; simp
 refine W.sr ?_
 simp (disch := omega) [gw]
 refine aA p1 ?_
 simp (disch := omega) [gw]
 refine aA p2 ?_
 simp (disch := omega) [gw]
 refine W.lx [0, 1] ?_; simp
 refine W.seq ?_
 refine W.block ?_
 refine W.bB (fun k σ => ∃ (x y : ZX) (s : Nat) (rows : Pm.Rows) (clk : Nat), σ = ⟨fa [(0, PI x.l), (1, PI y.l)], rows, clk⟩ ∧ BZ s n x ∧ BZ s n y ∧ 1 ≤ s ∧ u4 C n s x y ∧ gz x y = G ∧ nf x = x ∧ nf y = y ∧ k = ZX.N y) (ZX.N y0) ?_ ?_
 ·exact ⟨_, .refl, x0, y0, s, _, _, rfl, b1, b2, h1, hP, hG, hx1, by rw [← MD, P3], rfl⟩
 rintro k _ ⟨x, y, s, rows, clk, rfl, bx, qE, h1, hp, hgz, hnx, hny, rfl⟩
 have hs := hp.le
 have hlx := bx.len
 have hly := qE.len
 refine W.seq ?_
 refine W.sr ?_; simp (disch := omega) [gw]; refine W.lx [0, 1, 11] ?_; simp
 refine W.cond ⟨_, rfl, fun h => ?_, fun h => ?_⟩
 ·have hy : y ≠ 0 := ZX.aG.2 (by show 0 < y.l.length; simp at h; omega)
  obtain ⟨GD, hN, m, q, hm, e⟩ := qG (a := x) hy
  have br := QD bx qE hy
  have hmul : (x.l.length + 1 - y.l.length + 1) * (s + n + 1) ≤ 22 * 4500000000 := Nat.mul_le_mul (by omega) (by omega)
  have af7 : (ZX.N x + 1 - ZX.N y) * (s + n + 1) ≤ 22 * 4500000000 := Nat.mul_le_mul (by have : ZX.N x = x.l.length := rfl; omega) (by omega)
  have hR := C7 (s := s) (s' := s) (N := n) bx qE x.c y.c (ZX.aG.1 hy) (by omega) (by show _ < 137438953472; omega)
  rw [← GD] at hR
  have pr := jT br (by omega) (by show _ ≤ 137438953472; omega) (by omega)
  have KL : ZX.N (nf (rz x y)) < ZX.N y := by rw [xA]; exact hN
  have hp2 := hp.step KL
  have oP := E7 hm (show (1 : Int) ≠ 0 by decide) e
  rw [← M4 y (rz x y)] at oP
  have br2 := br.nf
  have SW := P3 (rz x y)
  generalize (rz x y).l = rl at *
  generalize nf (rz x y) = r2 at *
  refine W.skip ?_
  refine W.block ?_
  refine W.b9 (fun K hK => ?_)
  simp (disch := omega) [gw]
  refine aA hR ?_
  simp (disch := omega) [gw]
  refine aA pr ?_
  simp (disch := omega) [gw]
  refine hK _ ⟨ZX.N r2, _, aC _ [0, 1], KL, y, r2, _, _, _, rfl, qE.mono (by omega) (Nat.le_refl _), br2, by omega, hp2, by rw [← oP, hgz], hny, SW, rfl⟩
 ·have hy : y = 0 := by
   refine Classical.byContradiction fun h0 => ?_
   have h1 := ZX.aG.1 h0
   have h2 : ZX.N y = y.l.length := rfl
   simp at h; rw [h2, h] at h1; simp at h1
  subst hy
  rw [qC, hnx] at hgz
  subst hgz
  refine W.exit ?_; simp only [pX, if_true, if_false, reduceIte, Nat.reduceEqDiff]
  refine W.sr ?_; simp (disch := omega) [gw]; refine W.lx [4] ?_; simp
  refine W.ret ?_
  simp [go]
theorem TU {h h' n : Nat} {a c : ZX} (b : BZ h n a) (b' : BZ h' n c) (h1 : 1 ≤ h) (ha : Nf a) (hc : Nf c) (hd : ZX.dv c a) (hB : h + (n + 1) * (h' + n + 2) + h' + n + n + 10 < 137438953472) : aL env.P 172 [PI a.l, PI c.l] (.eN [PI (qz a c).l, PI []]) := by
 obtain ⟨hw, e⟩ := lW ha hc hd
 have hD := I9 a.l c.l b b' a.c c.c (ZX.aG.1 hc.ne) h1 hB
 obtain ⟨e1, e2⟩ := ZG (q := (qz a c).l) a.c c.c (ZX.aG.1 hc.ne) (qz a c).c fun t => by
  conv => lhs; rw [e]
  rw [ZX.c7]
 rw [e1, e2, n9, n9, n9] at hD
 exact hD
def zq (a : ZX) : List PV := [PI a.l]
@[simp] theorem atA {a : ZX} : zq a = [PI a.l] := rfl
@[simp] theorem ale {l : List ZX} : bC 1 (emap zq l) = True := cR fun _ => rfl
@[simp] theorem ai7 {v e n : Nat} {l : List ZX} : cO (some ⟨v, e, n, emap zq l⟩) = True := cH fun _ => rfl
@[simp] theorem atB {l : List ZX} {a : ZX} : emap zq l ++ [[aJ ri a.l]] = emap zq (l ++ [a]) := by simp [emap]
theorem uL.qd {s n : Nat} {a c d : ZX} (h : uL s n a) (h1 : 1 ≤ s) (ha : Nf a) (hc : Nf c) (hd : Nf d) (hca : ZX.dv c a) (hdc : ZX.dv d c) : aL env.P 172 [PI c.l, PI d.l] (.eN [PI (qz c d).l, PI []]) ∧ aL env.P 111 [PI (qz c d).l] (PI (qz c d).l) := by
 have b := h.dv ha hc hca
 have b2 := h.dv ha hd (hdc.trans hca)
 have hq := h.wO
 have hn := h.hn
 obtain ⟨hw, e⟩ := lW hc hd hdc
 have bq := h.dv ha hw ((Z0 hc hd hdc).trans hca)
 have hm : (n + 1) * (qb s n + n + 2) ≤ 21 * 4500000000 := Nat.mul_le_mul (by omega) (by omega)
 have ai8 : 1 ≤ qb s n := by unfold qb; omega
 refine ⟨TU b b2 ai8 hc hd hdc (by omega), ?_⟩
 have := jT bq ai8 (by show _ ≤ 137438953472; omega) (by omega)
 rwa [hw.nfe] at this
theorem uL.qgd {s n : Nat} {a c : ZX} (h : uL s n a) (ha : Nf a) (hc : Nf c) (hd : ZX.dv c a) : aL env.P 125 [PI c.l] (PI (ZX.bO c).l) ∧ aL env.P 171 [PI c.l, PI (ZX.bO c).l] (PI (gd c).l) := by
 have b := h.dv ha hc hd
 have b2 := b.bO (by have := h.hn; omega)
 have hq := h.wO
 have hn := h.hn
 have ai8 : 1 ≤ qb s n := by unfold qb; omega
 refine ⟨tT b (by show _ ≤ 137438953472; omega) (by omega), C8 (s := qb s n + 5) (b.mono (by omega) (Nat.le_refl _)) b2 ?_ h.hn (C := 4500000000) (Nat.le_refl _) (by omega)⟩
 have hN := ZX.mW c
 have h1 : ZX.N c ≤ n := b.N
 have h2 := ZX.aG.1 hc.ne
 unfold u4
 rw [xA, xA, if_pos (by omega)]
 refine Nat.le_trans (Nat.mul_le_mul (show qb s n + 5 + n + 1 ≤ qb s n + n + 6 by omega) (Nat.pow_le_pow_right (by decide) h1)) h.hC
theorem FB {s n : Nat} {a : ZX} (h : uL s n a) (h1 : 1 ≤ s) : aL env.P 93 [PI a.l] (aJ zq (fl (nf a))) := by
 have hqb := h.wO
 have hn := h.hn
 have p5 : s ≤ 4500000000 := by unfold qb at hqb; omega
 have p1 := jT h.bz h1 (by show s ≤ 137438953472; omega) (by omega)
 have hA := h.nfz
 have hNa : ZX.N a = a.l.length := rfl
 have YU := xA a
 have hle := af3 (nf a)
 have hNA : ZX.N (nf a) ≤ n := hA.bz.N
 refine aB (E := env) (fun _ => 0) [(0, PI a.l)] Tryz.func93 rfl (by kernel_rfl) (by kernel_rfl) (show 1 ≤ 94 by decide) (by simp) ?_
 refine W.sr ?_; simp (disch := omega) [gw]; refine W.lx [0] ?_; simp
 refine W.seq ?_
 refine W.sr ?_; simp (disch := omega) [gw]; refine W.lx [0, 2, 15] ?_; simp
 refine W.cond ⟨_, rfl, fun h => ?_, fun h => ?_⟩
 ·have h2 : ZX.N a ≤ 1 := by simp at h; omega
  have h3 : fl (nf a) = [] := by unfold fl; rw [JL (by rw [YU]; exact h2)]; rfl
  rw [h3]
  refine W.sr ?_; simp (disch := omega) [gw]; refine W.lx [2] ?_; simp
  refine W.SJ 2 (aJ zq []) (by simp) rfl (fun K hK => ?_)
  refine W.lw [2] hK ?_; clear hK K; simp
  refine W.ret ?_
  simp [go]
 have h2 : 2 ≤ ZX.N a := by simp at h; omega
 have nA : Nf (nf a) := lV (ZX.aG.2 (by omega))
 clear h
 generalize nf a = A at *
 obtain ⟨m, hm⟩ : ∃ m, m = nl A := ⟨_, rfl⟩
 have hfl : fl A = (List.range m).map (AA A) := by rw [hm]; rfl
 rw [hfl]
 refine W.skip ?_
 refine W.sr ?_
 simp (disch := omega) [gw]
 refine aA p1 ?_
 simp (disch := omega) [gw]
 refine W.lx [0] ?_; simp
 refine W.sr ?_; simp (disch := omega) [gw]; refine W.lx [0, 3] ?_; simp
 refine W.af6 1 rfl rfl (fun K hK => ?_)
 simp (disch := omega) [gw]
 refine W.lw [3, 4] hK ?_; clear hK K; simp
 refine W.seq ?_
 refine W.block ?_
 refine W.bB (fun k σ => ∃ (i ver : Nat) (rows : Pm.Rows) (clk : Nat), σ = ⟨fa [(3, .nil), (4, .own 19 ver 0 (i + 1))], rows, clk⟩ ∧ rows 19 = some ⟨ver, 24, 1, emap zq ((List.range (i + 1)).map (gs A))⟩ ∧ i + k = m) m ?_ ?_
 ·exact ⟨_, .refl, 0, _, _, _, rfl, by simp [emap, gs], by omega⟩
 rintro k _ ⟨i, ver, rows, clk, rfl, hr, UY⟩
 have uK : ((List.range (i + 1)).map (gs A)).length = i + 1 := by simp
 have AF : nth ((List.range (i + 1)).map (gs A)) i = gs A i := mI _ (by omega)
 have er : (List.range (i + 1 + 1)).map (gs A) = (List.range (i + 1)).map (gs A) ++ [gs A (i + 1)] := by rw [List.range_succ, List.map_append]; rfl
 have e1 : ((i : Int) + 1 - 1).toNat = i := by omega
 generalize hL : (List.range (i + 1)).map (gs A) = L at *
 refine W.seq ?_
 refine W.sr ?_; simp (disch := omega) [gw, hr, uK, AF]; refine W.lx [3, 4, 27] ?_; simp
 refine W.cond ⟨_, rfl, fun h => ?_, fun h => ?_⟩
 ·have h3 : 2 ≤ ZX.N (gs A i) := by
   have h4 : ZX.N (gs A i) = (gs A i).l.length := rfl
   simp at h; omega
  clear h
  have hi : i < nl A := by
   rcases Nat.lt_or_ge i (nl A) with h4 | h4
   ·exact h4
   ·have h5 := (tS A).1
    rw [show nl A = i by omega] at h5; omega
  obtain ⟨t1, t2⟩ := hA.qgd nA (lY nA i) (JJ A i)
  rw [show gd (gs A i) = gs A (i + 1) from rfl] at t2
  generalize hg : (gs A i).l = g at *
  generalize oP : gs A (i + 1) = g2 at *
  refine W.skip ?_
  refine W.block ?_
  refine W.sr ?_; simp (disch := omega) [gw, hr, uK, AF, hg]; refine W.lx [3, 4, 5] ?_; simp
  refine W.b9 (fun K hK => ?_)
  simp (disch := omega) [gw]
  refine aA t1 ?_
  simp (disch := omega) [gw]
  refine aA t2 ?_
  simp (disch := omega) [gw, hr, uK]
  refine hK _ ⟨k - 1, _, aC _ [3, 4], by omega, i + 1, _, _, _, rfl, by rw [er]; simp, by omega⟩
 have h3 : ZX.N (gs A i) ≤ 1 := by
  have h4 : ZX.N (gs A i) = (gs A i).l.length := rfl
  simp at h; omega
 clear h
 have hi : i = m := by
  rcases Nat.lt_or_ge i (nl A) with h4 | h4
  ·have := (tS A).2 i h4; omega
  ·omega
 subst hi
 have hR : L ++ [(1 : ZX)] = (List.range (i + 2)).map (gs A) := by
  rw [show (1 : ZX) = gs A (i + 1) by rw [hm, ZU nA 1]]
  exact er.symm
 have gO := tU
 generalize hz : (1 : ZX) = z1 at *
 refine W.exit ?_; simp only [pX, if_true, if_false, reduceIte, Nat.reduceEqDiff]
 refine W.sr ?_
 simp (disch := omega) [gw]
 refine aA gO ?_
 simp (disch := omega) [gw, hr, uK]
 refine W.lx [3, 4] ?_; simp
 clear hr AF e1 er hL uK
 have hRl : (L ++ [z1]).length = i + 2 := by rw [hR]; simp
 have AF : ∀ j, j < i + 2 → nth (L ++ [z1]) j = gs A j := fun j hj => by rw [hR]; exact mI _ hj
 generalize L ++ [z1] = R at *
 have hRt : List.take (i + 2) R = R := List.take_of_length_le (by omega)
 refine W.freeze 19 (by simp) (fun K hK => ?_)
 simp [hRt]
 refine hK _ ?_; clear hK K
 refine W.nil 3 3 24 1 (by simp) (by decide) (fun K hK => ?_)
 refine W.lw [3, 4] hK ?_; clear hK K; simp
 refine W.seq ?_
 refine W.sr ?_; simp (disch := omega) [gw]; refine W.lx [3, 4, 6] ?_; simp
 refine W.block ?_
 refine W.bB (fun k σ => ∃ (j ver : Nat) (rows : Pm.Rows) (clk : Nat), σ = ⟨fa [(3, .own 3 ver 0 j), (4, aJ zq R), (6, .int .i64 j)], rows, clk⟩ ∧ rows 3 = some ⟨ver, 24, 1, emap zq ((List.range j).map (AA A))⟩ ∧ j + k = i) i ?_ ?_
 ·exact ⟨_, .refl, 0, _, _, _, rfl, by simp [emap], by omega⟩
 clear rows clk ver UY k
 rintro k _ ⟨j, ver, rows, clk, rfl, hr, hjk⟩
 have hjl : ((List.range j).map (AA A)).length = j := by simp
 refine W.seq ?_
 refine W.sr ?_; simp (disch := omega) [gw, hRl]; refine W.lx [3, 4, 6, 50] ?_; simp
 refine W.cond ⟨_, rfl, fun h => ?_, fun h => ?_⟩
 ·have hj : j < i := by simp at h; omega
  clear h
  have er : (List.range (j + 1)).map (AA A) = (List.range j).map (AA A) ++ [AA A j] := by rw [List.range_succ, List.map_append]; rfl
  have n0 := AF j (by omega)
  have n1 := AF (j + 1) (by omega)
  have n2 := AF (j + 2) (by omega)
  have l0 : j < R.length := by omega
  have l1 : j + 1 < R.length := by omega
  have l2 : j + 2 < R.length := by omega
  have e1 : ((j : Int) + 1).toNat = j + 1 := by omega
  have e2 : ((j : Int) + 2).toNat = j + 2 := by omega
  obtain ⟨d1, q1⟩ := hA.qd h1 nA (lY nA j) (lY nA (j + 1)) (JJ A j) (wM _)
  obtain ⟨d2, q2⟩ := hA.qd h1 nA (lY nA (j + 1)) (lY nA (j + 2)) (JJ A (j + 1)) (wM _)
  obtain ⟨d3, q3⟩ := hA.qd h1 nA (gV nA j).1 (gV nA (j + 1)).1 (E9 nA j) (P7 nA j)
  rw [show qz (gs A j) (gs A (j + 1)) = wz A j from rfl] at d1 q1
  rw [show qz (gs A (j + 1)) (gs A (j + 2)) = wz A (j + 1) from rfl] at d2 q2
  rw [show qz (wz A j) (wz A (j + 1)) = AA A j from rfl] at d3 q3
  have h0 : (nth R j).l = (gs A j).l := by rw [n0]
  have h1' : (nth R (j + 1)).l = (gs A (j + 1)).l := by rw [n1]
  have h2' : (nth R (j + 2)).l = (gs A (j + 2)).l := by rw [n2]
  generalize (gs A j).l = g0 at *
  generalize (gs A (j + 1)).l = g1 at *
  generalize (gs A (j + 2)).l = g2 at *
  generalize (wz A j).l = w0 at *
  generalize (wz A (j + 1)).l = w1 at *
  generalize hF : AA A j = F at *
  generalize hac : (List.range j).map (AA A) = acc at *
  refine W.skip ?_
  refine W.seq ?_
  refine W.block ?_
  refine W.sd ?_
  simp (disch := omega) [gw, h0, h1', e1]
  refine aA d1 ?_
  simp (disch := omega) [gw]
  refine W.lx [3, 4, 6, 7] ?_; simp
  refine W.sd ?_
  simp (disch := omega) [gw, h1', h2', e1, e2]
  refine aA d2 ?_
  simp (disch := omega) [gw]
  refine W.lx [3, 4, 6, 7, 9] ?_; simp
  refine W.sr ?_
  simp (disch := omega) [gw]
  refine aA q1 ?_
  simp (disch := omega) [gw]
  refine aA q2 ?_
  simp (disch := omega) [gw]
  refine aA d3 ?_
  simp (disch := omega) [gw]
  refine W.lx [3, 4, 6, 11] ?_; simp
  refine W.b9 (fun K hK => ?_)
  simp (disch := omega) [gw]
  refine aA q3 ?_
  simp (disch := omega) [gw, hr, hjl]
  refine W.lw [3, 4, 6] hK ?_; clear hK K; simp
  refine W.b9 (fun K hK => ?_); simp (disch := omega) [gw]
  refine hK _ ⟨k - 1, _, aC _ [3, 4, 6], by omega, j + 1, _, _, _, rfl, by rw [er]; simp, by omega⟩
 ·have hj : j = i := by simp at h; omega
  subst hj
  generalize (List.range j).map (AA A) = acc at *
  have AZ : List.take j acc = acc := List.take_of_length_le (by omega)
  refine W.exit ?_; simp only [pX, if_true, if_false, reduceIte, Nat.reduceEqDiff]
  refine W.sr ?_
  simp (disch := omega) [gw, hr, AZ]
  refine W.lx [2] ?_; simp
  refine W.ret ?_
  simp [go, hr, AZ]
theorem tV {s n : Nat} {a : ZX} (h : uL s n a) (h1 : 1 ≤ s) : aL env.P 26 [PI a.l] (PI (sq a).l) := by
 have hqb := h.wO
 have hn := h.hn
 have hF := FB h h1
 have hA := h.nfz
 have hNa : ZX.N a = a.l.length := rfl
 have hsq : ZX.N a ≠ 0 → sq a = pf (nf a) (fun _ => true) (nl (nf a)) := fun h0 => by
  have nA := lV (ZX.aG.2 (Nat.pos_of_ne_zero h0))
  unfold sq
  split
  ·rename_i h2
   rw [JL (by rw [xA]; exact h2), nA.N1 (by rw [xA]; exact h2)]; rfl
  ·rw [aiZ nA]
 have hNf : ZX.N a ≠ 0 → Nf (nf a) := fun h0 => lV (ZX.aG.2 (Nat.pos_of_ne_zero h0))
 have hle := af3 (nf a)
 have hNA : ZX.N (nf a) ≤ n := hA.bz.N
 have aoH : ZX.N a = 0 → (sq a).l = [] := fun h0 => by
  have h2 : a = 0 := Classical.byContradiction fun h3 => by have := ZX.aG.1 h3; omega
  unfold sq
  rw [if_pos (by omega), h2, kI]; rfl
 generalize nf a = A at *
 refine aB (E := env) (fun _ => 0) [(0, PI a.l)] Tryz.func26 rfl (by kernel_rfl) (by kernel_rfl) (show 1 ≤ 26 by decide) (by simp) ?_
 refine W.sr ?_; simp (disch := omega) [gw]; refine W.lx [0] ?_; simp
 refine W.seq ?_
 refine W.sr ?_; simp (disch := omega) [gw]; refine W.lx [0, 2, 8] ?_; simp
 refine W.cond ⟨_, rfl, fun h3 => ?_, fun h3 => ?_⟩
 ·have h0 : ZX.N a = 0 := by rw [hNa]; simp at h3; rw [h3]; rfl
  rw [aoH h0]
  refine W.sr ?_; simp (disch := omega) [gw]; refine W.lx [2] ?_; simp
  refine W.SJ 2 (PI []) (by simp) rfl (fun K hK => ?_)
  refine W.lw [2] hK ?_; clear hK K; simp
  refine W.ret ?_
  simp [go]
 have h0 : ZX.N a ≠ 0 := by rw [hNa]; simp at h3; intro h4; exact h3 (List.eq_nil_of_length_eq_zero h4)
 have nA := hNf h0
 rw [hsq h0]
 clear h3 hsq aoH hNf
 have hmul : ∀ i, aL env.P 54 [PI (pf A (fun _ => true) i).l, PI (AA A i).l] (PI (pf A (fun _ => true) (i + 1)).l) := fun i => by
  have b1 := hA.dv nA (C6 nA (fun _ => true) i) (adK nA _ i)
  have b2 := hA.dv nA (E8 nA i).1 (adJ nA i)
  exact p8 _ _ _ _ _ _ b1 b2 (by show _ < 137438953472; omega)
 obtain ⟨m, hm⟩ : ∃ m, m = nl A := ⟨_, rfl⟩
 have hfl : fl A = (List.range m).map (AA A) := by rw [hm]; rfl
 rw [← hm] at hle ⊢
 rw [hfl] at hF
 have UQ : ((List.range m).map (AA A)).length = m := by simp
 have AF : ∀ i, i < m → (nth ((List.range m).map (AA A)) i).l = (AA A i).l := fun i hi => by rw [mI _ hi]
 generalize (List.range m).map (AA A) = L at *
 have h1 := tU
 rw [show (1 : ZX) = pf A (fun _ => true) 0 from rfl] at h1
 generalize hg : pf A (fun _ => true) 0 = g0 at *
 refine W.skip ?_
 refine W.sr ?_
 simp (disch := omega) [gw]
 refine aA h1 ?_
 simp (disch := omega) [gw]
 refine W.lx [0, 3] ?_; simp
 refine W.sr ?_
 simp (disch := omega) [gw]
 refine aA hF ?_
 simp (disch := omega) [gw]
 refine W.lx [3, 4] ?_; simp
 refine W.seq ?_
 refine W.sr ?_; simp (disch := omega) [gw, UQ]; refine W.lx [3, 4, 14, 15] ?_; simp
 subst hg
 refine W.block ?_
 refine W.bB (fun k σ => ∃ (i : Nat) (rows : Pm.Rows) (clk : Nat), σ = ⟨fa [(3, PI (pf A (fun _ => true) i).l), (4, aJ zq L), (14, .int .i64 m), (15, .int .i64 i)], rows, clk⟩ ∧ i + k = m) m ?_ ?_
 ·exact ⟨_, .refl, 0, _, _, rfl, by omega⟩
 rintro k _ ⟨i, rows, clk, rfl, UY⟩
 refine W.sr ?_; simp (disch := omega) [gw]; refine W.lx [3, 4, 14, 15, 16] ?_; simp
 refine W.seq ?_
 refine W.cond ⟨_, rfl, fun h => ?_, fun h => ?_⟩
 ·have hi : i < m := by simp at h; omega
  have hiL : i < L.length := by omega
  have ht := hmul i
  have AG := AF i hi
  generalize oP : pf A (fun _ => true) (i + 1) = g2 at *
  generalize pf A (fun _ => true) i = g at *
  refine W.skip ?_
  refine W.seq ?_
  refine W.block ?_
  refine W.sr ?_; simp (disch := omega) [gw]; refine W.lx [3, 4, 5, 14, 15] ?_; simp
  refine W.b9 (fun K hK => ?_)
  simp (disch := omega) [gw, AG]
  refine aA ht ?_
  simp (disch := omega) [gw]
  refine W.lw [3, 4, 14, 15] hK ?_; clear hK K; simp
  subst oP
  refine W.b9 (fun K hK => ?_); simp (disch := omega) [gw]
  refine hK _ ⟨k - 1, _, aC _ [3, 4, 14, 15], by omega, i + 1, _, _, rfl, by omega⟩
 ·have hi : i = m := by simp at h; omega
  subst hi
  refine W.exit ?_; simp only [pX, if_true, if_false, reduceIte, Nat.reduceEqDiff]
  refine W.sr ?_; simp (disch := omega) [gw]; refine W.lx [2] ?_; simp
  refine W.ret ?_
  simp [go]
abbrev R2 (n d : Int) : PV := .ag [aJ aF (aR DD n.natAbs), .bool (decide (n < 0)), aJ aF (aR DD d.natAbs), .bool (decide (d < 0))]
theorem dP (q : Rat) : RR q = R2 q.num q.den := by
 have : decide ((q.den : Int) < 0) = false := decide_eq_false (by omega)
 show PV.ag (re q) = PV.ag _
 rw [this]; rfl
def hm (n d : Int) : List Int → Int × Int
 | [] => (0, 1)
 | a :: l => ((hm n d l).1 * n + a * (hm n d l).2, (hm n d l).2 * d)
def FC (x : List Int) (n d : Int) : Int := (hm n d x).1.sign
theorem af8 {s k u : Nat} {n d : Int} (hn : sz 2 n ≤ u) (hd : sz 2 d ≤ u) (hu : 1 ≤ u) : ∀ {x : List Int}, Bd 2 s k x → sz 2 (hm n d x).1 ≤ s + x.length * (u + 1) ∧ sz 2 (hm n d x).2 ≤ x.length * u + 1
 | [], _ => ⟨by show sz 2 0 ≤ _; rw [show sz 2 0 = 0 by decide]; omega, by show sz 2 1 ≤ _; exact Nat.le_trans (cS (k := 1) (by decide) (by decide)) (by omega)⟩
 | a :: l, h => by
  obtain ⟨h1, h2⟩ := af8 hn hd hu (x := l) ⟨Nat.le_trans (by simp) h.len, fun c hc => h.sz c (by simp [hc])⟩
  have ha := h.sz a (by simp)
  have e : (a :: l).length * u = l.length * u + u := by rw [List.length_cons, Nat.add_mul]; omega
  have e' : (a :: l).length * (u + 1) = l.length * u + l.length + u + 1 := by rw [List.length_cons, Nat.add_mul, Nat.mul_add]; omega
  have e'' : l.length * (u + 1) = l.length * u + l.length := by rw [Nat.mul_add]; omega
  refine ⟨?_, ?_⟩
  ·have g1 := bS (b := 2) (by decide) h1 hn
   have g2 := bS (b := 2) (by decide) ha h2
   have := mG (b := 2) (by decide) (Nat.le_trans g1 (Nat.le_max_left _ (s + (l.length * u + 1)))) (Nat.le_trans g2 (Nat.le_max_right (s + l.length * (u + 1) + u) _))
   refine Nat.le_trans this ?_
   rw [e', e'']
   omega
  ·have := bS (b := 2) (by decide) h2 hd
   rw [e]
   exact Nat.le_trans this (by omega)
theorem C9 (p q p' q' : Int) (hp : sz 2 p ≤ YY) (hq : sz 2 q ≤ YY) (uF : sz 2 p' ≤ YY) (OD : sz 2 q' ≤ YY) : aL env.P 27 [R2 p q, R2 p' q'] (.int .i64 (dH (p * q') (p' * q))) := by
 have zz : ∀ {x : Int}, sz 2 x ≤ YY → Z x := fun h => by simp only [Z, YY] at *; omega
 have s1 := bS (b := 2) (by decide) hp OD
 have s2 := bS (b := 2) (by decide) uF hq
 have m1 := dO p q' (zz hp) (zz OD)
 have m2 := dO p' q (zz uF) (zz hq)
 have c1 := YP (p * q') (p' * q) (by simp only [Z, YY] at *; omega) (by simp only [Z, YY] at *; omega)
 generalize dH (p * q') (p' * q) = r at *
 generalize p * q' = x1 at *
 generalize p' * q = x2 at *
 refine aB (E := env) (fun _ => 0) [(0, R2 p q), (1, R2 p' q')] Tryz.func27 rfl (by kernel_rfl) (by kernel_rfl) (show 2 ≤ 16 by decide) (by simp) ?_
 refine W.sr ?_; simp (disch := omega) [gw]; refine W.lx [2, 3] ?_; simp
 refine W.sd ?_
 simp (disch := omega) [gw]
 refine aA m1 ?_
 simp (disch := omega) [gw]
 refine aA m2 ?_
 simp (disch := omega) [gw]
 refine aA c1 ?_
 simp (disch := omega) [gw]
 refine W.lx [4] ?_; simp
 refine W.ret ?_
 simp [go]
theorem k8 (p q : Rat) (hp : ZR YY p) (hq : ZR YY q) : aL env.P 27 [RR p, RR q] (.int .i64 (dH (p.num * q.den) (q.num * p.den))) := by
 rw [dP, dP]; exact C9 _ _ _ _ hp.n hp.d hq.n hq.d
@[simp] theorem aqF : aR DD 1 = [1] := by decide
theorem TV (x : List Int) (hl : x.length < 9223372036854775808) : aL env.P 184 [PI x] (.bool true) := by
 refine aB (E := env) (fun _ => 0) [(0, PI x)] Tryz.func184 rfl (by kernel_rfl) (by kernel_rfl) (show 1 ≤ 29 by decide) (by simp) ?_
 refine W.sr ?_; simp (disch := omega) [gw]; refine W.lx [0] ?_; simp
 refine W.seq ?_
 refine W.sr ?_; simp (disch := omega) [gw]; refine W.lx [0, 5, 6] ?_; simp
 refine W.block ?_
 refine W.bB (fun k σ => ∃ (i : Nat) (rows : Pm.Rows) (clk : Nat), σ = ⟨fa [(0, PI x), (5, .int .i64 x.length), (6, .int .i64 i)], rows, clk⟩ ∧ i + k = x.length) x.length ?_ ?_
 ·exact ⟨_, .refl, 0, _, _, rfl, by omega⟩
 rintro k _ ⟨i, rows, clk, rfl, hI⟩
 refine W.sr ?_; simp (disch := omega) [gw]; refine W.lx [0, 5, 6, 7] ?_; simp
 refine W.seq ?_
 refine W.cond ⟨_, rfl, fun h => ?_, fun h => ?_⟩
 ·have hi : i < x.length := by simp at h; omega
  refine W.skip ?_
  refine W.seq ?_
  refine W.block ?_
  refine W.sr ?_; simp (disch := omega) [gw]; refine W.lx [0, 3, 5, 6] ?_; simp
  refine W.sr ?_; simp (disch := omega) [gw, hi]; refine W.lx [0, 5, 6, 27] ?_; simp
  refine W.cond ⟨_, rfl, fun h => ?_, fun h => ?_⟩
  ·simp at h
   exact absurd rfl h
  ·refine W.skip ?_
   refine W.b9 (fun K hK => ?_); simp (disch := omega) [gw]
   refine hK _ ⟨k - 1, _, aC _ [0, 5, 6], by omega, i + 1, _, _, rfl, by omega⟩
 ·refine W.exit ?_; simp only [pX, if_true, if_false, reduceIte, Nat.reduceEqDiff]
  refine W.sr ?_; simp (disch := omega) [gw]; refine W.lx [2] ?_; simp
  refine W.ret ?_
  simp [go]
theorem u5 {x : List Int} {n d : Int} {s k u : Nat} (hx : Bd 2 s k x) (hn : sz 2 n ≤ u) (hd : sz 2 d ≤ u) (hu : 1 ≤ u) (hk : k < 1099511627776) (hB : s + k * (u + 1) + u < YY) : aL env.P 107 [PI x, R2 n d] (.int .i64 (FC x n d)) := by
 have hl := hx.len
 have hW := TV x (by omega)
 have hO := nO 1 (by decide) (by decide)
 have zz : ∀ {x : Int}, sz 2 x ≤ YY → Z x := fun h => by simp only [Z, YY] at *; omega
 have hY : YY = 137438953472 := rfl
 have bd := fun i => af8 (s := s) (k := k) (x := x.drop i) hn hd hu ⟨by simp; omega, fun c hc => hx.sz c (List.mem_of_mem_drop hc)⟩
 have hle : ∀ i, (x.drop i).length * (u + 1) ≤ k * (u + 1) := fun i => Nat.mul_le_mul_right _ (by simp; omega)
 have Z5 : ∀ i, (x.drop i).length * u ≤ (x.drop i).length * (u + 1) := fun i => Nat.mul_le_mul_left _ (by omega)
 have step : ∀ i, i < x.length → hm n d (x.drop i) = ((hm n d (x.drop (i + 1))).1 * n + nth x i * (hm n d (x.drop (i + 1))).2, (hm n d (x.drop (i + 1))).2 * d) := fun i hi => by
  rw [List.drop_eq_getElem_cons hi, cC hi]; rfl
 have Z6 : hm n d (x.drop x.length) = (0, 1) := by rw [List.drop_length]; rfl
 have hS := CR (hm n d x).1
 have h0 : hm n d (x.drop 0) = hm n d x := rfl
 have hs : FC x n d = (hm n d x).1.sign := rfl
 rw [hs]
 have M : ∀ i, i < x.length → aL env.P 94 [RI (hm n d (x.drop (i + 1))).1, RI n] (RI ((hm n d (x.drop (i + 1))).1 * n)) ∧ aL env.P 94 [RI (nth x i), RI (hm n d (x.drop (i + 1))).2] (RI (nth x i * (hm n d (x.drop (i + 1))).2)) ∧
   aL env.P 128 [RI ((hm n d (x.drop (i + 1))).1 * n), RI (nth x i * (hm n d (x.drop (i + 1))).2)] (RI (hm n d (x.drop i)).1) ∧ aL env.P 94 [RI (hm n d (x.drop (i + 1))).2, RI d] (RI (hm n d (x.drop i)).2) := fun i hi => by
  obtain ⟨b1, b2⟩ := bd (i + 1)
  have l1 := hle (i + 1)
  have l2 := Z5 (i + 1)
  have ha := hx.sz _ (bK hi)
  have g1 := bS (b := 2) (by decide) b1 hn
  have g2 := bS (b := 2) (by decide) ha b2
  have e := step i hi
  rw [e]
  exact ⟨dO _ _ (zz (by omega)) (zz (by omega)), dO _ _ (zz (by omega)) (zz (by omega)), zM _ _ (by simp only [Z]; omega) (by simp only [Z]; omega), dO _ _ (zz (by omega)) (zz (by omega))⟩
 clear bd hle Z5 step
 generalize hm n d x = r0 at *
 refine aB (E := env) (fun _ => 0) [(0, PI x), (1, R2 n d)] Tryz.func107 rfl (by kernel_rfl) (by kernel_rfl) (show 2 ≤ 42 by decide) (by simp) ?_
 refine W.sr ?_; simp (disch := omega) [gw]; refine W.lx [0, 3] ?_; simp
 refine W.seq ?_
 refine W.sr ?_
 simp (disch := omega) [gw]
 refine aA hW ?_
 simp (disch := omega) [gw]
 refine W.lx [0, 3, 10] ?_; simp
 refine W.cond ⟨_, rfl, fun h => ?_, fun h => ?_⟩
 ·simp at h
 refine W.skip ?_
 refine W.sr ?_; simp (disch := omega) [gw]; refine W.lx [0, 3, 5] ?_; simp
 refine W.sr ?_
 simp (disch := omega) [gw]
 refine aA hO ?_
 simp (disch := omega) [gw]
 refine W.lx [0, 3, 5, 6] ?_; simp
 refine W.seq ?_
 refine W.sr ?_; simp (disch := omega) [gw]; refine W.lx [0, 3, 5, 6, 7] ?_; simp
 refine W.row (id := 5) (els := [[.nil, .bool false]]) [[aJ aF (aR DD (0 : Int).natAbs), .bool (decide ((0 : Int) < 0))]] (by simp; first | exact ⟨rfl, rfl, rfl⟩ | exact ⟨rfl, rfl⟩ | rfl) ⟨⟨.inr ⟨rfl, rfl⟩, .inl rfl, trivial⟩, trivial⟩ ?_
 refine W.block ?_
 refine W.bB (fun k σ => ∃ (v3 v5 v6 e3 e5 e6 : Nat) (rows : Pm.Rows) (clk : Nat), σ = ⟨fa [(0, PI x), (3, .ptr 3 v3 0 0), (5, .ptr 5 v5 0 0), (6, .ptr 6 v6 0 0), (7, .int .i64 ((k : Int) - 1))], rows, clk⟩ ∧ k ≤ x.length ∧
  rows 3 = some ⟨v3, e3, 4, [[aJ aF (aR DD n.natAbs), .bool (decide (n < 0)), aJ aF (aR DD d.natAbs), .bool (decide (d < 0))]]⟩ ∧
  rows 5 = some ⟨v5, e5, 2, [[aJ aF (aR DD (hm n d (x.drop k)).1.natAbs), .bool (decide ((hm n d (x.drop k)).1 < 0))]]⟩ ∧
  rows 6 = some ⟨v6, e6, 2, [[aJ aF (aR DD (hm n d (x.drop k)).2.natAbs), .bool (decide ((hm n d (x.drop k)).2 < 0))]]⟩) x.length ?_ ?_
 ·exact ⟨_, .refl, _, _, _, _, _, _, _, _, rfl, Nat.le_refl _, by simp; (first | exact ⟨rfl, rfl, rfl⟩ | exact ⟨rfl, rfl⟩ | rfl), by rw [Z6]; simp; (first | exact ⟨rfl, rfl, rfl⟩ | exact ⟨rfl, rfl⟩ | rfl), by rw [Z6]; simp; (first | exact ⟨rfl, rfl, rfl⟩ | exact ⟨rfl, rfl⟩ | rfl)⟩
 rintro k _ ⟨v3, v5, v6, e3, e5, e6, rows, clk, rfl, hkl, gU, lT, tP⟩
 refine W.seq ?_
 refine W.sr ?_; simp (disch := omega) [gw]; refine W.lx [0, 3, 5, 6, 7, 21] ?_; simp
 refine W.cond ⟨_, rfl, fun h => ?_, fun h => ?_⟩
 ·have vZ : 0 < k := by simp at h; omega
  obtain ⟨k, rfl⟩ : ∃ j, k = j + 1 := ⟨k - 1, by omega⟩
  obtain ⟨m1, m2, m3, m4⟩ := M k (by omega)
  generalize hm n d (x.drop (k + 1)) = A at *
  have e1 : (((k + 1 : Nat) : Int) - 1).toNat = k := by omega
  refine W.skip ?_
  refine W.seq ?_
  refine W.block ?_
  refine W.sd ?_
  simp (disch := omega) [gw, gU, lT, tP]
  refine aA m1 ?_
  simp (disch := omega) [gw, e1]
  try simp (disch := omega) [gw, e1, tP]
  refine aA m2 ?_
  simp (disch := omega) [gw]
  refine aA m3 ?_
  simp (disch := omega) [gw, lT]
  try (refine cP (by kernel_rfl) ?_)
  try simp (disch := omega) [gw, lT]
  refine W.lx [0, 3, 5, 6, 7] ?_; simp
  refine W.b9 (fun K hK => ?_)
  simp (disch := omega) [gw, gU, tP]
  refine aA m4 ?_
  simp (disch := omega) [gw, tP]
  refine W.lw [0, 3, 5, 6, 7] hK ?_; clear hK K; simp
  refine W.b9 (fun K hK => ?_); simp (disch := omega) [gw]
  refine hK _ ⟨k, _, aC _ [0, 3, 5, 6, 7], by omega, v3, v5, v6, _, _, _, _, _, rfl, by omega, by simp [gU]; exact rfl, by simp; exact rfl, by simp; exact rfl⟩
 ·have vZ : k = 0 := by simp at h; omega
  subst vZ
  rw [h0] at lT
  refine W.exit ?_; simp only [pX, if_true, if_false, reduceIte, Nat.reduceEqDiff]
  refine W.sr ?_
  simp (disch := omega) [gw, lT]
  refine aA hS ?_
  simp (disch := omega) [gw]
  refine W.lx [4] ?_; simp
  refine W.ret ?_
  simp [go]
end Go.Proofs.YtbbjgncblhfegaaGreat
namespace Go.Proofs.YtbbjgncblhfegaaGreat
open Go Pm
open ZX hiding N W
theorem Z7 {y : List Int} (cy : Cn y) (hy : 0 < y.length) : ∀ (n : Nat) (x : List Int), Cn x → x.length < n → ∃ (m : Int) (q : List Int), 0 < m ∧ ∀ t, m * V t x = V t q * V t y + V t (rq y n x)
 | 0, x, _, h => by omega
 | n + 1, x, cx, h => by
  rw [rq]
  split
  ·exact ⟨1, [], by decide, fun t => by simp [V]⟩
  ·rename_i h1
   have hl := qF hy (show y.length ≤ x.length by omega)
   obtain ⟨m, q, hm, h4⟩ := Z7 cy hy n (P8 y x) (Cn.dZ _ _) (by omega)
   have wX := cI cy hy
   refine ⟨m * (lead y).natAbs, fU q (aV (oB (x.length - y.length) (uM (lead y) * lead x)) m), Int.mul_pos hm (by omega), fun t => ?_⟩
   have h5 := Z4 t y x
   have h6 := h4 t
   rw [o0, bU, lS]
   have : m * ((lead y).natAbs : Int) * V t x = m * (((lead y).natAbs : Int) * V t x) := by grind
   rw [this, h5]
   grind
theorem Z8 {x y s q : List Int} {D : Int} (cx : Cn x) (cy : Cn y) (hy : 0 < y.length) (cs : Cn s) (hs : s.length < y.length) (hD : 0 < D) (hv : ∀ t, D * V t x = V t q * V t y + V t s) : I3 x y = iR s := by
 have hV := fun t => XR t x y
 have hl := EL (a := x) hy
 obtain ⟨c1, c2⟩ := y8 (b := y) cx
 rw [YZ cx]
 have wX := cI cy hy
 have s8 : lead y ^ iA x y ≠ 0 := Int.pow_ne_zero wX
 have hsg := YW (lead y) (iA x y)
 have hsq := YX (lead y) (iA x y)
 generalize sg (lead y) (iA x y) = g at *
 generalize (vX x y).1 = p at *
 generalize (vX x y).2 = r at *
 generalize hc : lead y ^ iA x y = c at *
 have hm : 0 < ((lead y).natAbs : Int) ^ iA x y := Int.pow_pos (by omega)
 generalize ((lead y).natAbs : Int) ^ iA x y = m at *
 have e : ∀ t, V t (dZ (s.map (· * c)) (r.map (· * D))) = V t y * V t (dZ (p.map (· * D)) (q.map (· * c))) := fun t => by
  have h1 := hv t
  have h2 := hV t
  rw [gJ, gJ, dA, dA, dA, dA]
  have h3 : c * (D * V t x) = c * (V t q * V t y + V t s) := by rw [h1]
  have h4 : D * (V t p * V t y + V t r) = D * (c * V t x) := by rw [h2]
  grind
 have h1 := CK (Cn.dZ _ _) cy hy e (by
  have := s0 (s.map (· * c)) (r.map (· * D))
  simp only [List.length_map] at this
  omega)
 have CZ : D ≠ 0 := by omega
 have e1 : s.map (· * c) = r.map (· * D) := Cn.ext (jP cs s8) (jP c2 CZ) fun t => JB (by rw [h1]; rfl) t
 rw [← wE cs hm, ← wE (Cn.aV r g) hD]
 congr 1
 refine Cn.ext (Cn.aV _ _) (Cn.aV _ _) fun t => ?_
 have e2 : V t s * c = V t r * D := by rw [← dA, e1, dA]
 rw [bU, bU, bU]
 have h5 : m = g * c := by rw [hsg]; grind
 rw [h5]
 have : V t s * (g * c) = g * (V t s * c) := by grind
 rw [this, e2]; grind
def oA (a : ZX) : ZX := ⟨iR a.l, Cn.cut _⟩
def nx (a b : ZX) : ZX := ⟨fD (iR (rz a b).l), Cn.fD _⟩
theorem TW {a b : ZX} (hb : b ≠ 0) : ZX.N (nx a b) < ZX.N b := by
 obtain ⟨_, hN, _⟩ := qG (a := a) hb
 have h1 := I6 (iR (rz a b).l)
 have h2 := j4 (rz a b).l
 have h3 : ZX.N (nx a b) = (fD (iR (rz a b).l)).length := rfl
 have h4 : ZX.N (rz a b) = (rz a b).l.length := rfl
 omega
theorem QE {s n : Nat} {a b : ZX} (ha : BZ s n a) (hb : BZ s n b) (h0 : b ≠ 0) : BZ (s + (ZX.N a + 1 - ZX.N b) * (s + n + 1)) n (nx a b) := Bd.fD (gR (QD ha hb h0))
def r6 : Nat → ZX → ZX → List ZX
 | 0, _, _ => []
 | k + 1, a, b => if ZX.N b = 0 then [] else b :: r6 k b (nx a b)
theorem i6 (k : Nat) (a : ZX) : r6 k a 0 = [] := by cases k <;> simp [r6, show ZX.N 0 = 0 by decide]
theorem AH : ∀ {k j : Nat} {a b : ZX}, ZX.N b ≤ k → ZX.N b ≤ j → r6 k a b = r6 j a b
 | 0, j, a, b, h, _ => by
  have : b = 0 := Classical.byContradiction fun h0 => by have := ZX.aG.1 h0; omega
  rw [this, i6, i6]
 | k + 1, 0, a, b, _, h => by
  have : b = 0 := Classical.byContradiction fun h0 => by have := ZX.aG.1 h0; omega
  rw [this, i6, i6]
 | k + 1, j + 1, a, b, h1, h2 => by
  rw [r6, r6]
  split
  ·rfl
  ·rename_i h0
   have := TW (a := a) (ZX.aG.2 (Nat.pos_of_ne_zero h0))
   rw [AH (k := k) (j := j) (by omega) (by omega)]
def bE (f : ZX) : List ZX := f :: r6 (ZX.N f) f (oA (bO f))
theorem ai9 (x : List Int) : PP (qd x 1) = PI x := by rw [EX]; show PV.sl (emap re (qs x)) = PV.sl (emap ri x); rw [zW]
theorem wP {s n : Nat} {a : ZX} (b : BZ s n a) (p5 : 1 ≤ s) (hs : s ≤ YY) (hn : n < 1099511627776) : aL env.P 124 [PI a.l] (PI (oA a).l) := by
 have := I8 a.l 1 (by decide) b (by exact Nat.le_trans (cS (k := 1) (by decide) (by decide)) p5) a.c p5 hs hn
 rw [show ((1 : Nat) : Int) = 1 from rfl, ai9] at this
 exact this
structure Ch (s n : Nat) (f : ZX) : Prop where
 bz : BZ s n f
 hn : n ≤ 20
 AG : 1 ≤ n
 hC : (s + 5 + n + 1) * 4 ^ n ≤ 4500000000
theorem Ch.pot {s n : Nat} {f : ZX} (h : Ch s n f) : u4 4500000000 n (s + 5) f (oA (bO f)) := by
 have h1 := mW f
 have h2 : ZX.N (oA (bO f)) ≤ ZX.N (bO f) := j4 _
 have h3 := h.bz.N
 have hn := h.AG
 unfold u4
 split
 ·exact Nat.le_trans (Nat.mul_le_mul_left _ (Nat.pow_le_pow_right (by decide) h3)) h.hC
 ·have h4 : ZX.N (oA (bO f)) = 0 := by omega
  have h5 := h.hC
  rw [h4, Nat.pow_zero, Nat.mul_one]
  exact Nat.le_trans (Nat.mul_le_mul_left _ (show 2 ≤ 4 ^ n from Nat.le_trans (by decide) (Nat.pow_le_pow_right (n := 4) (by decide) hn))) h5
theorem Z9 {l : List ZX} {a : ZX} {i : Nat} (h : i < l.length) : nth (l ++ [a]) i = nth l i := by
 simp only [nth, List.getElem?_append_left h]
theorem wQ {s n : Nat} {a f : ZX} (hS : aL env.P 26 [PI a.l] (PI f.l)) (h : Ch s n f) (h1 : 1 ≤ s) : aL env.P 57 [PI a.l] (aJ zq (bE f)) := by
 have hn := h.hn
 have hp := h.pot
 have hs := hp.le
 have bd : BZ (s + 5) n (bO f) := h.bz.bO (by omega)
 have d1 := tT h.bz (by show s ≤ 137438953472; omega) (by omega)
 have d2 := wP bd (by omega) (by show s + 5 ≤ 137438953472; omega) (by omega)
 have b2 : BZ (s + 5) n (oA (bO f)) := gR bd
 have b1 : BZ (s + 5) n f := h.bz.mono (by omega) (Nat.le_refl _)
 have KL : ZX.N (oA (bO f)) ≤ ZX.N f := Nat.le_trans (j4 _) (Nat.le_trans (mW f) (by omega))
 have hc : bE f = f :: r6 (ZX.N f) f (oA (bO f)) := rfl
 rw [AH KL (Nat.le_refl _)] at hc
 generalize hC : bE f = C at *
 generalize oA (bO f) = g0 at *
 generalize (bO f).l = dl at *
 have hfl : f.l = f.l := rfl
 refine aB (E := env) (fun _ => 0) [(0, PI a.l)] Tryz.func57 rfl (by kernel_rfl) (by kernel_rfl) (show 1 ≤ 31 by decide) (by simp) ?_
 refine W.sr ?_; simp (disch := omega) [gw]; refine W.lx [0] ?_; simp
 refine W.sr ?_
 simp (disch := omega) [gw]
 refine aA hS ?_
 simp (disch := omega) [gw]
 refine W.lx [3] ?_; simp
 refine W.af6 1 rfl rfl (fun K hK => ?_)
 simp (disch := omega) [gw]
 refine W.lw [3, 4] hK ?_; clear hK K; simp
 refine W.sr ?_
 simp (disch := omega) [gw]
 refine aA d1 ?_
 simp (disch := omega) [gw]
 refine aA d2 ?_
 simp (disch := omega) [gw]
 refine W.lx [4, 5] ?_; simp
 refine W.seq ?_
 refine W.block ?_
 refine W.bB (fun k σ => ∃ (L : List ZX) (x g : ZX) (i ver s : Nat) (rows : Pm.Rows) (clk : Nat), σ = ⟨fa [(4, .own 9 ver 0 (i + 1)), (5, PI g.l)], rows, clk⟩ ∧ rows 9 = some ⟨ver, 24, 1, emap zq L⟩ ∧ L.length = i + 1 ∧ nth L i = x ∧
  L ++ r6 k x g = C ∧ k = ZX.N g ∧ BZ s n x ∧ BZ s n g ∧ 1 ≤ s ∧ u4 4500000000 n s x g ∧ i + ZX.N g ≤ 20) (ZX.N g0) ?_ ?_
 ·exact ⟨_, .refl, [f], f, g0, 0, _, s + 5, _, _, rfl, by simp [emap], rfl, rfl, hc.symm, rfl, b1, b2, by omega, hp, by have := b2.N; omega⟩
 rintro k _ ⟨L, x, g, i, ver, s, rows, clk, rfl, hr, hL, hx, MY, rfl, bx, bg, h1, hp, hiN⟩
 have hs := hp.le
 have hlx := bx.len
 have hlg := bg.len
 have hLl : (emap zq L).length = i + 1 := by simp [emap, hL]
 refine W.seq ?_
 refine W.sr ?_; simp (disch := omega) [gw]; refine W.lx [4, 5, 15] ?_; simp
 refine W.cond ⟨_, rfl, fun h => ?_, fun h => ?_⟩
 ·have hg : g ≠ 0 := ZX.aG.2 (by show 0 < g.l.length; simp at h; omega)
  obtain ⟨GD, hN, _⟩ := qG (a := x) hg
  have br := QD bx bg hg
  have hmul : (x.l.length + 1 - g.l.length + 1) * (s + n + 1) ≤ 22 * 4500000000 := Nat.mul_le_mul (by omega) (by omega)
  have af7 : (ZX.N x + 1 - ZX.N g) * (s + n + 1) ≤ 22 * 4500000000 := Nat.mul_le_mul (by have : ZX.N x = x.l.length := rfl; omega) (by omega)
  have hR := C7 (s := s) (s' := s) (N := n) bx bg x.c g.c (ZX.aG.1 hg) (by omega) (by show _ < 137438953472; omega)
  rw [← GD] at hR
  have hZ := wP br (by omega) (by show _ ≤ 137438953472; omega) (by omega)
  have hNg := CW (oA (rz x g)).l ((gR br).mono (by show _ ≤ 137438953472; omega) (by omega))
  have e3 : fD (oA (rz x g)).l = (nx x g).l := rfl
  rw [e3] at hNg
  have KL := TW (a := x) hg
  have hp2 := hp.step KL
  have bn := QE bx bg hg
  have hi : i < L.length := by omega
  have hx2 : nth (L ++ [g]) i = x := by rw [Z9 hi]; exact hx
  have aoJ : i < (L ++ [g]).length := by simp; omega
  have hch : L ++ [g] ++ r6 (ZX.N (nx x g)) g (nx x g) = C := by
   rw [← MY]
   obtain ⟨j, hj⟩ : ∃ j, ZX.N g = j + 1 := ⟨ZX.N g - 1, by have := ZX.aG.1 hg; have : ZX.N g = g.l.length := rfl; omega⟩
   rw [hj, r6, if_neg (by omega), AH (k := j) (j := ZX.N (nx x g)) (by omega) (Nat.le_refl _)]
   simp
  generalize (rz x g).l = rl at *
  generalize (oA (rz x g)).l = pl at *
  generalize hnx : nx x g = nn at *
  have hnl : nn.l = nn.l := rfl
  refine W.skip ?_
  refine W.block ?_
  refine W.sr ?_
  simp (disch := omega) [gw, hr, hLl]
  refine W.lx [4, 5] ?_; simp
  have e1 : ((i : Int) + 1 + 1 - 2).toNat = i := by omega
  refine W.b9 (fun K hK => ?_)
  simp (disch := omega) [gw, e1, aoJ, hx2]
  refine aA hR ?_
  simp (disch := omega) [gw]
  refine aA hZ ?_
  simp (disch := omega) [gw]
  refine aA hNg ?_
  simp (disch := omega) [gw]
  refine hK _ ⟨ZX.N nn, _, aC _ [4, 5], KL, L ++ [g], g, nn, i + 1, _, _, _, _, rfl, by simp, by simp [hL], ?_, hch, rfl, bg.mono (by omega) (Nat.le_refl _), bn, by omega, hp2, by omega⟩
  rw [cC (by simp; omega)]
  simp [← hL]
 ·have hg : g = 0 := by
   refine Classical.byContradiction fun h0 => ?_
   have h1 := ZX.aG.1 h0
   have h2 : ZX.N g = g.l.length := rfl
   simp at h; rw [h2, h] at h1; simp at h1
  subst hg
  rw [i6, List.append_nil] at MY
  subst MY
  have AZ : List.take (i + 1) L = L := List.take_of_length_le (by omega)
  refine W.exit ?_; simp only [pX, if_true, if_false, reduceIte, Nat.reduceEqDiff]
  refine W.sr ?_; simp (disch := omega) [gw]; refine W.lx [2] ?_; simp
  refine W.ret ?_
  simp [go, hr, hLl, AZ]
end Go.Proofs.YtbbjgncblhfegaaGreat
