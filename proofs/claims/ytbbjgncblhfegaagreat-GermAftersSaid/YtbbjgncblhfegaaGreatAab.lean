import Derived.Laws.CopyOwn
import Derived.ArgAppend
import Derived.Test.YtbbjgncblhfegaaGreatAaa
set_option linter.unusedSimpArgs false
set_option linter.unusedVariables false
namespace Pm
open Go Go.RowKit
def CL (rows : Rows) (ids : List Nat) : Rows := fun j => if j ∈ ids then none else rows j
def LY (c : Cx) (ids : List Nat) : c9 := fun b o => c.S b o ∨ ∃ id ∈ ids, (∃ r, c.rows id = some r) ∧ (c.β id).ownBlock = some b
section
variable {E : Env} {c : Cx} {w0 : World} {S0 : c9}
def BC (c : Cx) (ids : List Nat) : Cx := { c with S := LY c ids, rows := CL c.rows ids }
theorem kQ (c : Cx) (ids : List Nat) : rT c (BC c ids) :=
 ⟨fun _ _ h => .inl h, fun _ _ _ => rfl, fun _ h => h, fun id r hr => by
  simp only [BC, CL] at hr ⊢
  split at hr
  ·cases hr
  ·exact .inr ⟨r, hr, rfl, rfl, rfl, by first | rfl | trivial⟩⟩
theorem Inv.freeze (hI : Inv w0 S0 c) (ids : List Nat) : Inv w0 S0 (BC c ids) := by
 have live : ∀ {k : Nat} {t : Row}, CL c.rows ids k = some t → c.rows k = some t ∧ k ∉ ids := by
  intro k t h
  simp only [CL] at h
  split at h
  ·cases h
  ·rename_i hk; exact ⟨h, hk⟩
 have asa : ∀ {id : Nat} {r : Row} {g : Nat}, c.rows id = some r → (c.β id).ownBlock = some g → w0.heap.size ≤ g ∧ g < c.w.heap.size := by
  intro id r g hr hg
  obtain ⟨⟨ys, g1, _, _⟩, _⟩ := hI.row id r hr
  exact g1.lt g hg
 refine ⟨hI.below, fun b o h => .inl (hI.ext b o h), fun b o h => ?_, hI.lt0, fun id r hr => hI.clock id r (live hr).1, fun id r hr => ?_, fun i j r s g hr hs => hI.apart i j r s g (live hr).1 (live hs).1⟩
 ·rcases h with h | ⟨id, _, ⟨r, hr⟩, hb⟩
  ·exact hI.new b o h
  ·exact .inr (asa hr hb)
 ·obtain ⟨jP, hk⟩ := live hr
  obtain ⟨⟨ys, g1, g2, g3⟩, g4, g5, g6⟩ := hI.row id r jP
  refine ⟨⟨ys, g1, g2.mono (aP.rU (kQ c ids)), g3⟩, g4, fun g o hg hS => ?_, g6⟩
  rcases hS with h | ⟨iW, yI, ⟨r', cI⟩, hb⟩
  ·exact g5 g o hg h
  ·have := hI.apart id iW r r' g jP cI hg hb
   subst this
   exact hk yI
theorem PH (hI : Inv w0 S0 c) {ids : List Nat} (hp : ∀ id ∈ ids, ∀ r, c.rows id = some r → ∀ e ∈ r.els, ∀ p ∈ e, bY p = true) {id : Nat} (gL : id ∈ ids) {r : Row} (hr : c.rows id = some r)
  {g n cap : Nat} (hβ : c.β id = .slice (some ⟨g, 0, none⟩) n cap) {i j : Nat} {el : List PV} {p : PV} (hi : r.els[i]? = some el) (hj : el[j]? = some p) :
  ∃ v, c.w.cell? ⟨g, i * r.size + j, none⟩ = some v ∧ LY c ids g (i * r.size + j) ∧ v.oneCell' = true ∧ cJ (LY c ids) c.w p v := by
 obtain ⟨v, h1, h2, h3⟩ := sZ hI hr hβ hi hj
 refine ⟨v, h1, .inr ⟨id, gL, ⟨r, hr⟩, by simp [hβ, Value.ownBlock]⟩, h2, ?_⟩
 have h4 := h3.rep (hp id gL r hr el (List.mem_of_getElem? hi) p (List.mem_of_getElem? hj))
 exact cJ.mono (fun _ _ h => .inl h) (fun _ _ _ => rfl) _ _ h4
theorem EG (hI : Inv w0 S0 c) {ids : List Nat} (hp : ∀ id ∈ ids, ∀ r, c.rows id = some r → ∀ e ∈ r.els, ∀ p ∈ e, bY p = true) {p : PV} {v : Value} (h : aP c p v) (rX : ∀ id ∈ aZ p, id ∈ ids) (uZ : bY (fz c.rows p) = true) :
  cJ (LY c ids) c.w (fz c.rows p) v := by
 have mono : ∀ q u, cJ c.S c.w q u → cJ (LY c ids) c.w q u := fun q u => cJ.mono (fun _ _ h => .inl h) (fun _ _ _ => rfl) q u
 cases p with
 | own id ver off len =>
  simp only [fz] at uZ ⊢
  have gL : id ∈ ids := rX id (by simp [aZ])
  cases hr : c.rows id with
  | none => simp [hr, bY] at uZ
  | some r =>
   simp only [hr] at uZ ⊢
   by_cases hv : r.ver = ver
   ·simp only [hv, if_true] at uZ ⊢
    simp only [aP] at h
    obtain ⟨hle, h⟩ := h.2 r hr hv
    obtain ⟨⟨xs, gO, _, _⟩, hlen, _⟩ := hI.row id r hr
    have ach : ∀ A m cap, c.β id = .slice A m cap → r.els.length ≤ cap ∧ cap ≤ maxLen := by
     intro A m cap hβ
     rw [hβ] at gO
     rcases gO.2 with ⟨h', hz⟩ | ⟨g, jR, cur, h', _, _, PF, hm, _⟩
     ·simp at h'; exact ⟨by omega, by rw [h'.2.2]; simp⟩
     ·simp at h'; obtain ⟨_, _, rfl⟩ := h'; exact ⟨PF, hm⟩
    have BH : ((r.els.drop off).take len).length = len := by simp; omega
    have els : ∀ g n cap, c.β id = .slice (some ⟨g, 0, none⟩) n cap → eF (LY c ids) c.w g (off * r.size) ((r.els.drop off).take len) := by
     intro g n cap hβ
     refine mW (n := r.size) (fun e he => hlen e (List.mem_of_mem_drop (List.mem_of_mem_take he))) fun k e hk => ?_
     rw [List.getElem?_take] at hk
     split at hk
     ·rw [List.getElem?_drop] at hk
      refine iL fun j q hq => ?_
      have := PH hI hp gL hr hβ hk hq
      rw [show off * r.size + k * r.size + j = (off + k) * r.size + j by rw [Nat.add_mul]]; exact this
     ·cases hk
    simp only [cJ]
    rw [BH]
    rcases h with ⟨rfl, A, n, cap, hβ, rfl⟩ | ⟨kH, g, n, cap, A, hβ, hoc, rfl, ha⟩
    ·obtain ⟨c1, c2⟩ := ach _ _ _ hβ
     refine ⟨A, cap, rfl, by omega, c2, ?_⟩
     rcases Nat.eq_zero_or_pos len with h0 | h0
     ·left; exact List.eq_nil_of_length_eq_zero (by rw [BH]; exact h0)
     ·right
      obtain ⟨g, jR, pA⟩ := o9 hI hr (by omega)
      rw [hβ] at pA
      simp only [Value.slice.injEq] at pA
      obtain ⟨rfl, rfl, rfl⟩ := pA
      exact ⟨g, 0, rfl, by simpa using els g _ _ hβ⟩
    ·obtain ⟨c1, c2⟩ := ach _ _ _ hβ
     refine ⟨some A, cap - off, rfl, by omega, by omega, ?_⟩
     rcases ha with rfl | rfl
     ·left; exact List.eq_nil_of_length_eq_zero BH
     ·right; exact ⟨g, off * r.size, rfl, els g n cap hβ⟩
   ·simp [hv, bY] at uZ
 | ptr id ver i j =>
  simp only [fz] at uZ ⊢
  have gL : id ∈ ids := rX id (by simp [aZ])
  cases hr : c.rows id with
  | none => simp [hr, bY] at uZ
  | some r =>
   simp only [hr] at uZ ⊢
   by_cases hv : r.ver = ver
   ·simp only [hv, if_true] at uZ ⊢
    simp only [aP] at h
    obtain ⟨g, n, cap, hβ, rfl⟩ := h.2 r hr hv
    simp only [cJ]
    refine ⟨g, i * r.size + j, rfl, iL fun k q hq => ?_⟩
    rw [List.getElem?_drop] at hq
    cases kX : r.els[i]? with
    | none => simp [List.getD, kX] at hq
    | some el =>
     have hq' : el[j + k]? = some q := by simpa [List.getD, kX] using hq
     have := PH hI hp gL hr hβ kX hq'
     rw [show i * r.size + j + k = i * r.size + (j + k) by omega]; exact this
   ·simp [hv, bY] at uZ
 | nil =>
  simp only [aP, cJ] at h
  subst h
  simp only [fz, cJ]
  exact ⟨none, 0, rfl, by simp, by simp [maxLen], .inl (by first | rfl | trivial)⟩
 | iZ l =>
  simp only [fz]
  have := mono _ _ (show cJ c.S c.w (.iZ l) v by simpa only [aP] using h)
  simp only [cJ] at this ⊢
  obtain ⟨A, rfl, h1, h2⟩ := this
  exact ⟨A, l.length, rfl, Nat.le_refl _, h1, h2⟩
 | undef => simp [fz, bY] at uZ
 | _ => simp only [fz]; exact mono _ _ (by simpa only [aP] using h)
theorem EH (hI : Inv w0 S0 c) {ids : List Nat} (hp : ∀ id ∈ ids, ∀ r, c.rows id = some r → ∀ e ∈ r.els, ∀ p ∈ e, bY p = true) {p : PV} {v : Value} (h : aK c p v) (rX : ∀ id ∈ dA p, id ∈ ids) (uZ : eY (pz c.rows p) = true) :
  cJ (LY c ids) c.w (pz c.rows p) v := by
 cases p with
 | ag l =>
  obtain ⟨vs, rfl, HC⟩ := h
  simp only [pz, eY] at uZ ⊢
  simp only [cJ]
  refine ⟨vs, rfl, cE.2 (a7.cV (by simp [HC.length]) fun k q u hq hu => ?_)⟩
  simp at hq
  obtain ⟨q', hq', rfl⟩ := hq
  obtain ⟨u', h1, h2⟩ := HC.get hq'
  rw [hu] at h1; cases h1
  refine EG hI hp h2 (fun id gL => rX id ?_) (List.all_eq_true.1 uZ _ (by simp; exact ⟨q', List.mem_of_getElem? hq', rfl⟩))
  simp only [dA, List.mem_flatMap]
  exact ⟨q', List.mem_of_getElem? hq', gL⟩
 | _ =>
  simp only [pz] at uZ ⊢
  refine EG hI hp (by simpa only [aK] using h) (fun id gL => rX id (by simpa only [dA] using gL)) ?_
  revert uZ
  simp only [fz]
  first
   | (intro uZ; simpa only [eY] using uZ)
   | (split
      · split
        · intro _; rfl
        · intro uZ; exact uZ
      · intro uZ; exact uZ)
end
theorem vU {α : Type} {n : Nat} : ∀ {els : List (List α)}, (∀ e ∈ els, e.length = n) → ∀ {i : Nat} {el : List α}, els[i]? = some el → ∀ (j : Nat) (l : List α), j + l.length ≤ el.length →
  (els.set i (el.take j ++ l ++ el.drop (j + l.length))).flatten = els.flatten.take (i * n + j) ++ l ++ els.flatten.drop (i * n + j + l.length)
 | [], _, _, _, h, _, _, _ => by simp at h
 | q :: els, hn, 0, el, h, j, l, hjl => by
  simp at h
  subst h
  simp only [List.set_cons_zero, List.flatten_cons, Nat.zero_mul, Nat.zero_add]
  rw [List.take_append_of_le_length (by omega), List.drop_append_of_le_length hjl]
  simp
 | q :: els, hn, i + 1, el, h, j, l, hjl => by
  have hq : q.length = n := hn q (by simp)
  have ih := vU (els := els) (n := n) (fun e he => hn e (by simp [he])) (i := i) (el := el) (by simpa using h) j l hjl
  simp only [List.set_cons_succ, List.flatten_cons, ih]
  have e1 : (i + 1) * n + j = q.length + (i * n + j) := by rw [hq, Nat.add_mul]; omega
  have e2 : (i + 1) * n + j + l.length = q.length + (i * n + j + l.length) := by omega
  rw [e1, show q.length + (i * n + j) + l.length = q.length + (i * n + j + l.length) by omega, List.take_length_add_append, List.drop_length_add_append]
  simp
def pB (E : Env) (t : TypeId) (rows : Rows) (p x v : PV) (u : Option (Nat × Row)) : Prop :=
 (E.ty t).known = true ∧ v = .undef ∧
 match p with
 | .ptr id ver i j => ∃ r, rows id = some r ∧ r.ver = ver ∧ ∃ el, r.els[i]? = some el ∧ ∃ l, bO x = some l ∧ (∀ q ∈ l, gW rows q) ∧ l.length = (E.ty t).size ∧ j + l.length ≤ el.length ∧
   u = some (id, { r with els := r.els.set i (el.take j ++ l ++ el.drop (j + l.length)) })
 | _ => False
def fU (n : Nat) : Nat → List (Nat × PV) → Option (List (List PV))
 | _, [] => some []
 | k, (i, p) :: ps =>
  match bO p with
  | some l => if i = k ∧ l.length = n then (fU n (k + 1) ps).map (l :: ·) else none
  | none => none
def LZ (t : TI) (rows : Rows) (len : Nat) (parts : List (Nat × PV)) (v : PV) : Prop :=
 match t with
 | .slice _ n _ _ => ∃ els, fU n 0 parts = some els ∧ len = els.length ∧ len ≤ 4096 ∧ n ≤ 4096 ∧ (∀ e ∈ els, ∀ p ∈ e, bY (fz rows p) = true ∧ gW rows p) ∧ (∀ e ∈ els, ∀ p ∈ e, aZ p = []) ∧ v = .iZ (els.map fun e => e.map (fz rows))
 | _ => False
def Gs := PV × Value → Prop
instance : Membership (PV × Value) Gs := ⟨fun G p => G p⟩
def Gs.none : Gs := fun _ => False
theorem Gs.HD {p : PV × Value} : ¬ p ∈ Gs.none := id
def SP (P : Program) (f : FuncId) (args : List PV) (rows : Rows) (clk : Nat) (R : PV → Rows → Nat → Prop) : Prop :=
 (∃ fn c, P.funcs[f]? = some fn ∧ fn.body = some c ∧ (fn.name == "runtime.NumGoroutine") = false) ∧
 ∀ (w0 : World) (S0 : c9) (c : Cx) (vs : List Value) (G : Gs), Inv w0 S0 c → c.rows = rows → (∀ v, c.used v → v < clk) → a7 (aK c) args vs → (∀ p ∈ G, aK c p.1 p.2) →
  Calls P f vs.toArray c.w fun e w' => ∃ v c' r jT, e = .returned v ∧ c'.w = w' ∧ Inv w0 S0 c' ∧ (∀ p ∈ G, aK c' p.1 p.2) ∧ R r c'.rows jT ∧ (∀ v, c'.used v → v < jT) ∧ aK c' r v
def ahn (E : Env) : PV → Bool
 | .fn g _ => E.writes g
 | _ => false
def vV (P : Program) (g : FuncId) (fI : List PV) (rows : Rows) (clk : Nat) (K : PV → Rows → Nat → Prop) : Prop :=
 ∃ R, SP P g fI rows clk R ∧ ∀ r rows' jT, R r rows' jT → K r rows' jT
def L0 (E : Env) (p : PV) (fI : List PV) (rows : Rows) (clk : Nat) (K : PV → Rows → Nat → Prop) : Prop :=
 match p with
 | .fn g [] => vV E.P g fI rows clk K
 | _ => False
def vW (E : Env) (f : PV) (args : List PV) (v : PV) : Prop :=
 match f with
 | .fn g bR => (args.all eY = true) ∧ aI E.P g (args ++ bR) v
 | _ => False
def ys (E : Env) (op : Op) (ρ : Operand → PV) (rows : Rows) (v : PV) (u : Option (Nat × Row)) : Prop :=
 match op with
 | .store t p x => pB E t rows (ρ p) (ρ x) v u
 | .buildSlice t len parts => LZ (E.ty t) rows len (parts.toList.map fun x => (x.1, ρ x.2)) v ∧ u = none
 | .call { callee := .value f, args := args, argTypes := _ } => u = none ∧ vW E (ρ f) (args.toList.map fun x => pz rows (ρ x)) v ∧ (args.toList.flatMap fun x => dA (ρ x)) = []
 | op => yv E op ρ rows v ∧ u = none
def fE (rows : Rows) : Option (Nat × Row) → Rows
 | none => rows
 | some (id, r) => dE rows id (some r)
section
variable {E : Env} {c : Cx} {w0 : World} {S0 : c9}
theorem L3 (hI : Inv w0 S0 c) {t : TypeId} {p x v : PV} {u : Option (Nat × Row)} {vp vx : Value} (hp : aK c p vp) (hx : aK c x vx) (h : pB E t c.rows p x v u) :
  v = .undef ∧ ∃ w', (Instr.storeAt t vp vx).run E.P c.w = .ok () w' ∧ Inv w0 S0 { c with w := w', rows := fE c.rows u } ∧ rT c { c with w := w', rows := fE c.rows u } := by
 obtain ⟨hk, rfl, h⟩ := h
 refine ⟨rfl, ?_⟩
 split at h
 ·rename_i id ver i j
  obtain ⟨r, hr, jJ, el, kX, l, hl, gX, hlen, hjl, rfl⟩ := h
  simp only [aK, aP] at hp
  obtain ⟨g, n, cap, hβ, rfl⟩ := hp.2 r hr jJ
  obtain ⟨⟨xs, gO, fD, afe⟩, yH, hnS, kH⟩ := hI.row id r hr
  obtain ⟨uM, WI⟩ := lA hx hl gX
  have LO : vx.cells.toList.length = l.length := uM.length.symm
  have amu := gO
  rw [hβ] at gO
  rcases gO.2 with ⟨h', _⟩ | ⟨g', jR, cur, h', hge, hg, PF, hcm, GY, HE⟩
  ·simp at h'
  ·simp only [Value.slice.injEq, Option.some.injEq, Addr.mk.injEq, and_true] at h'
   obtain ⟨rfl, rfl, rfl⟩ := h'
   have hi : i < r.els.length := (List.getElem?_eq_some_iff.1 kX).1
   have WJ : el.length = r.size := yH el (List.mem_of_getElem? kX)
   have hmul : i * r.size + r.size ≤ r.els.length * r.size := by rw [← Nat.succ_mul]; exact Nat.mul_le_mul_right _ hi
   have avp : r.els.length * r.size ≤ cap * r.size := Nat.mul_le_mul_right _ PF
   have aho : i * r.size + j + l.length ≤ r.els.length * r.size := by omega
   have lR := run_storeCells_at E.P g (i * r.size + j) r.e vx.cells.toList 0 cur c.w hg (by rw [LO]; omega) WI
   obtain ⟨inf, _, hi1, _, BB, _, _⟩ := ((E.ok t).zero hk).ok
   have i3 : (Instr.storeAt t (.pointer (some ⟨g, i * r.size + j, none⟩)) vx).run E.P c.w = .ok () (c.w.setRow g (cur.toList.take (i * r.size + j) ++ vx.cells.toList ++ cur.toList.drop (i * r.size + j + l.length)).toArray) := by
    have mN : vx.cells.size = inf.size := by rw [BB, ← hlen, ← LO]; simp
    simp only [Instr.storeAt, Instr.sureAddr, Sem.run_bind, Sem.run_pure, Result.andThen_ok, storeVar, cP hi1, mN]
    simp only [Nat.add_zero, LO] at lR
    simpa using lR
   refine ⟨_, i3, ?_⟩
   have WK : (c.w.setRow g (cur.toList.take (i * r.size + j) ++ vx.cells.toList ++ cur.toList.drop (i * r.size + j + l.length)).toArray).ownsRow w0.heap.size r.e r.size (c.β id) (r.els.set i (el.take j ++ l ++ el.drop (j + l.length))).length
     (xs.take (i * r.size + j) ++ vx.cells.toList ++ xs.drop (i * r.size + j + l.length)) := by
    rw [hβ, List.length_set]
    refine ⟨?_, .inr ⟨g, cap, _, rfl, hge, setRow_heap _ g cur _ r.e _ hg, PF, hcm, ?_, ?_⟩⟩
    ·have := gO.1
     simp [LO]; omega
    ·simp [LO]; omega
    ·rw [← HE]
     have asb : cur.toList.length = cap * r.size := by simp [GY]
     simp only
     rw [List.take_append, List.take_append]
     have e1 : List.take (r.els.length * r.size) (cur.toList.take (i * r.size + j)) = cur.toList.take (i * r.size + j) := by
      rw [List.take_take, Nat.min_eq_right (by omega)]
     have e2 : List.take (i * r.size + j) (cur.toList.take (r.els.length * r.size)) = cur.toList.take (i * r.size + j) := by
      rw [List.take_take, Nat.min_eq_left (by omega)]
     rw [e1, e2]
     have e3 : (cur.toList.take (i * r.size + j)).length = i * r.size + j := by rw [List.length_take]; omega
     rw [e3]
     have e4 : List.take (r.els.length * r.size - (i * r.size + j)) vx.cells.toList = vx.cells.toList := List.take_of_length_le (by rw [LO]; omega)
     rw [e4]
     congr 1
     rw [List.length_append, e3, LO, List.drop_take]
   have yJ : a7 (aP c) (r.els.set i (el.take j ++ l ++ el.drop (j + l.length))).flatten (xs.take (i * r.size + j) ++ vx.cells.toList ++ xs.drop (i * r.size + j + l.length)) := by
    rw [vU yH kX j l hjl]
    exact ((fD.take _).append uM).append (fD.drop _)
   have mX : c.w.grownBy (c.w.setRow g (cur.toList.take (i * r.size + j) ++ vx.cells.toList ++ cur.toList.drop (i * r.size + j + l.length)).toArray) (c.β id).ownBlock := by
    rw [hβ]
    exact ⟨rfl, rfl, rfl, by simp, fun k _ hk => setRow_other _ g k _ (fun e => hk (by simp [Value.ownBlock, e]))⟩
   exact hI.dE (r' := { r with els := r.els.set i (el.take j ++ l ++ el.drop (j + l.length)) }) hr mX WK yJ (by
    intro y hy
    simp only [List.mem_append] at hy
    rcases hy with (hy | hy) | hy
    ·exact afe y (List.mem_of_mem_take hy)
    ·exact WI y hy
    ·exact afe y (List.mem_of_mem_drop hy)) (by
    intro e he
    rcases List.mem_or_eq_of_mem_set he with he | rfl
    ·exact yH e he
    ·simp; omega) rfl rfl (by simp)
 ·exact h.elim
end
section
variable {E : Env} {c : Cx} {w0 : World} {S0 : c9}
theorem yK {n : Nat} : ∀ (vs : List (Nat × Value)) (k : Nat) (cells : Array Value), (∀ j x, vs[j]? = some x → x.1 = k + j ∧ x.2.cells.size = n) → cells.size = (k + vs.length) * n →
  ∃ bZ, Instr.fill (fun i => some (i * n, n)) cells vs = some bZ ∧ bZ.toList = cells.toList.take (k * n) ++ vs.flatMap fun x => x.2.cells.toList
 | [], k, cells, _, hs => ⟨cells, rfl, by simp at hs; rw [List.take_of_length_le (by simp [hs])]; simp⟩
 | (i, v) :: vs, k, cells, h, hs => by
  obtain ⟨h1, h2⟩ := h 0 (i, v) (by simp)
  simp only [Nat.add_zero] at h1 h2
  subst h1
  have aho : i * n + n ≤ cells.size := by
   rw [hs, List.length_cons, ← Nat.succ_mul]
   exact Nat.mul_le_mul_right _ (by omega)
  have hz3 : v.cells.toList.zipIdx = v.cells.zipIdx.toList := by simp
  have CG := nN (i * n) v.cells.toList 0 cells (by simp [h2]; omega)
  have mN : (List.foldl (fun cs (x : Value × Nat) => cs.setIfInBounds (i * n + x.2) x.1) cells v.cells.toList.zipIdx).size = cells.size := by
   have := congrArg List.length CG
   simp only [Array.length_toList] at this
   rw [this]
   simp [h2]
   omega
  obtain ⟨bZ, g1, g2⟩ := yK vs (i + 1) (List.foldl (fun cs (x : Value × Nat) => cs.setIfInBounds (i * n + x.2) x.1) cells v.cells.toList.zipIdx)
   (fun j x hx => by have := h (j + 1) x (by simpa using hx); exact ⟨by omega, this.2⟩) (by rw [mN, hs, List.length_cons]; congr 1; omega)
  refine ⟨bZ, ?_, ?_⟩
  ·simp only [Instr.fill]
   rw [if_neg (by simp [h2]; omega), ← g1, hz3, Array.foldl_toList]
  ·rw [g2, CG]
   have e1 : (cells.toList.take (i * n + 0)).length = i * n := by rw [List.length_take]; simp; omega
   have e2 : v.cells.toList.length = n := by simp [h2]
   rw [show (i + 1) * n = i * n + n by rw [Nat.add_mul]; omega]
   rw [List.take_append, List.length_append, e1, e2, Nat.sub_self, List.take_zero, List.append_nil, List.take_of_length_le (by rw [List.length_append, e1, e2]; exact Nat.le_refl _)]
   simp [List.append_assoc]
theorem mO {n : Nat} : ∀ {ps : List (Nat × PV)} {k : Nat} {els : List (List PV)}, fU n k ps = some els → els.length = ps.length ∧ (∀ e ∈ els, e.length = n) ∧ ∀ j x, ps[j]? = some x → x.1 = k + j ∧ ∃ e, els[j]? = some e ∧ bO x.2 = some e
 | [], k, els, h => by simp [fU] at h; subst h; simp
 | (i, p) :: ps, k, els, h => by
  simp only [fU] at h
  split at h
  ·rename_i l hl
   split at h
   ·rename_i CF
    rw [Option.map_eq_some_iff] at h
    obtain ⟨EI, h1, rfl⟩ := h
    obtain ⟨g1, g2, g3⟩ := mO h1
    refine ⟨by simp [g1], fun e he => ?_, fun j x hx => ?_⟩
    ·simp at he
     rcases he with rfl | he
     ·exact CF.2
     ·exact g2 e he
    ·match j with
     | 0 => simp at hx; subst hx; exact ⟨by simpa using CF.1, l, by simp, hl⟩
     | j + 1 =>
      obtain ⟨q1, q2⟩ := g3 j x (by simpa using hx)
      exact ⟨by omega, by simpa using q2⟩
   ·cases h
  ·cases h
theorem Inv.asc (hI : Inv w0 S0 c) (o : Obj) : Inv w0 S0 { c with w := c.w.alloc o, S := fun b k => c.S b k ∨ b = c.w.heap.size } ∧ rT c { c with w := c.w.alloc o, S := fun b k => c.S b k ∨ b = c.w.heap.size } := by
 have := hI.grow (w' := c.w.alloc o) (S' := fun b k => c.S b k ∨ b = c.w.heap.size) ((Below.refl _ _).alloc (Nat.le_refl _) o) (fun _ _ h => .inl h) (fun b k h => h.imp (fun h => h) fun h => by subst h; simp)
 exact this
theorem WL {p : PV} {v : Value} (hI : Inv w0 S0 c) (h : aP c p v) (rX : aZ p = []) (uZ : bY (fz c.rows p) = true) : cJ c.S c.w (fz c.rows p) v := by
 have := EG hI (ids := []) (by simp) h (by simp [rX]) uZ
 exact cJ.mono (fun b o h => by rcases h with h | ⟨id, gL, _⟩; exact h; cases gL) (fun _ _ _ => rfl) _ _ this
theorem yL (hI : Inv w0 S0 c) {t e : TypeId} {n bb len : Nat} {z : List PV} (hE : E.ty t = .slice e n bb z) {parts : Array (Nat × Operand)} {ρ : Operand → PV} {vρ : Operand → Value} (hρ : ∀ x, aK c (ρ x) (vρ x))
  {els : List (List PV)} (yH : fU n 0 (parts.toList.map fun x => (x.1, ρ x.2)) = some els) (hlen : len = els.length) (hsm : len ≤ 4096) (hn : n ≤ 4096)
  (uZ : ∀ e ∈ els, ∀ p ∈ e, bY (fz c.rows p) = true ∧ gW c.rows p) (rX : ∀ e ∈ els, ∀ p ∈ e, aZ p = []) :
  ∃ v' c', (Instr.buildSlice t len (parts.map fun (i, x) => (i, vρ x))).run E.P c.w = .ok v' c'.w ∧ c'.rows = c.rows ∧ c'.used = c.used ∧ Inv w0 S0 c' ∧ rT c c' ∧ aK c' (.iZ (els.map fun e => e.map (fz c.rows))) v' := by
 obtain ⟨hu, hnp, EJ, i, zv, hi, hz, hs, _, LX, _⟩ := eI hE
 obtain ⟨g1, g2, g3⟩ := mO yH
 have PJ : parts.size = els.length := by rw [g1]; simp
 have ase : zv.cells.size = n := by rw [← EJ, ← LX]; simp
 have CM : ∀ j (x : Nat × Value), ((parts.map fun (i, x) => (i, vρ x)).toList)[j]? = some x → x.1 = 0 + j ∧ ∃ e, els[j]? = some e ∧ a7 (aP c) e x.2.cells.toList ∧ ∀ u ∈ x.2.cells.toList, u.oneCell' = true := by
  intro j x hx
  simp at hx
  obtain ⟨a, b, gE, rfl⟩ := hx
  obtain ⟨q1, e, q2, q3⟩ := g3 j (a, ρ b) (by simp; exact ⟨a, b, gE, rfl, rfl⟩)
  have q4 := lA (hρ b) q3 (fun q hq => (uZ e (List.mem_of_getElem? q2) q hq).2)
  exact ⟨q1, e, q2, q4.1, q4.2⟩
 obtain ⟨bZ, f1, f2⟩ := yK (n := n) (parts.map fun (i, x) => (i, vρ x)).toList 0 ((Array.range (len * n)).map (zv.cells[· % zv.cells.size]!)) (fun j x hx => by
  obtain ⟨q1, e, q2, q3, _⟩ := CM j x hx
  refine ⟨q1, ?_⟩
  have := q3.length
  rw [g2 e (List.mem_of_getElem? q2)] at this
  simpa using this.symm) (by simp [PJ, hlen])
 simp only [Nat.zero_mul, List.take_zero, List.nil_append] at f2
 have i3 : (Instr.buildSlice t len (parts.map fun (i, x) => (i, vρ x))).run E.P c.w = .ok (.slice (some ⟨c.w.heap.size, 0, none⟩) len len) (c.w.alloc (.cells bZ e)) := by
  have hbound : ¬ (16777216 < len * n) := by
   have : len * n ≤ 4096 * 4096 := Nat.mul_le_mul hsm hn
   omega
  by_cases h0 : len * n = 0
  ·have uN : len = 0 := by
    rcases Nat.mul_eq_zero.1 h0 with h | h
    ·exact h
    ·omega
   have SR : parts = #[] := Array.eq_empty_of_size_eq_zero (by omega)
   subst SR
   subst uN
   simp [Instr.fill] at f1
   subst f1
   have CN : Array.range 0 = #[] := rfl
   simp [Instr.buildSlice, run_underlying hu, cP hi, newRow, Instr.fill, CN]
  ·have f1' : Instr.fill (fun i => some (i * n, n)) ((Array.range (len * n)).map (zv.cells[· % zv.cells.size]!)) (parts.toList.map fun x => (x.1, vρ x.2)) = some bZ := by simpa using f1
   simp only [Instr.buildSlice, Sem.run_bind, run_underlying hu, Result.andThen_ok, cP hi, hs]
   simp [h0, hbound, newRow, zeroValue, typeInfo, hi, hz, f1']
 obtain ⟨uO, hA⟩ := hI.asc (.cells bZ e)
 refine ⟨_, { c with w := c.w.alloc (.cells bZ e), S := fun b k => c.S b k ∨ b = c.w.heap.size }, i3, rfl, rfl, uO, hA, ?_⟩
 simp only [aK, aP, cJ]
 refine ⟨some ⟨c.w.heap.size, 0, none⟩, by rw [List.length_map, hlen], by rw [List.length_map, ← hlen]; simp [maxLen]; omega, .inr ⟨_, _, rfl, ?_⟩⟩
 refine mW (n := n) (by
  intro e' sX
  simp at sX
  obtain ⟨e1, K7, rfl⟩ := sX
  simpa using g2 e1 K7) fun k el hk => ?_
 simp at hk
 obtain ⟨e1, K7, rfl⟩ := hk
 refine iL fun j p hj => ?_
 simp at hj
 obtain ⟨q, hq, rfl⟩ := hj
 have hkl : k < els.length := (List.getElem?_eq_some_iff.1 K7).1
 obtain ⟨x, hx⟩ : ∃ x, ((parts.map fun (i, x) => (i, vρ x)).toList)[k]? = some x := ⟨_, List.getElem?_eq_getElem (by simp; omega)⟩
 obtain ⟨_, e2, q2, q3, q4⟩ := CM k x hx
 rw [K7] at q2; cases q2
 obtain ⟨u, hu1, hu2⟩ := q3.get hq
 have amw : bZ.toList[k * n + j]? = some u := by
  have e3 : bZ.toList = ((parts.map fun (i, x) => (i, vρ x)).toList.map fun x => x.2.cells.toList).flatten := by rw [f2, List.flatMap_def]
  rw [e3]
  refine iM (n := n) (fun e he => ?_) (i := k) (e := x.2.cells.toList) (by rw [List.getElem?_map, hx]; rfl) hu1
  simp only [List.mem_map] at he
  obtain ⟨y, hy, rfl⟩ := he
  obtain ⟨k', vS⟩ := List.getElem?_of_mem hy
  obtain ⟨_, e4, q5, q6, _⟩ := CM k' y vS
  rw [← q6.length]; exact g2 e4 (List.mem_of_getElem? q5)
 refine ⟨u, ?_, .inr rfl, q4 u (List.mem_of_getElem? hu1), ?_⟩
 ·have := heap_alloc_new c.w (.cells bZ e)
  rw [cell_of_row _ _ _ _ _ _ this]
  simpa using amw
 ·exact cJ.mono hA.S hA.w _ _ (WL hI hu2 (rX e1 (List.mem_of_getElem? K7) q (List.mem_of_getElem? hq)) (uZ e1 (List.mem_of_getElem? K7) q (List.mem_of_getElem? hq)).1)
end
section
variable {E : Env} {c : Cx} {w0 : World} {S0 : c9}
theorem lB {P : Program} {g : FuncId} {fn : Func} {b : Code} (h1 : P.funcs[g]? = some fn) (h2 : fn.body = some b) (h3 : (fn.name == "runtime.NumGoroutine") = false) (args : Array Value) (w : World) :
  (callFunc g args).run P w = .ok (.enter g args) w := by
 simp only [callFunc, Sem.run_bind, program, Sem.run, Result.andThen_ok, h1, h2, h3]
 simp
theorem vX (hI : Inv w0 S0 c) {ids : List Nat} (hp : ∀ id ∈ ids, ∀ r, c.rows id = some r → ∀ e ∈ r.els, ∀ p ∈ e, bY p = true) {pf : PV} {vf : Value} {PK : List PV} {vY : List Value}
  (hf : aK c pf vf) (fN : a7 (aK c) PK vY) (rX : ∀ p ∈ PK, ∀ id ∈ dA p, id ∈ ids) {v : PV} (h : vW E pf (PK.map (pz c.rows)) v) {K : Value → World → Prop}
  (hK : ∀ v' c', c'.rows = CL c.rows ids → c'.used = c.used → rT c c' → Inv w0 S0 c' → aK c' v v' → K v' c'.w) :
  ∃ g cs, vf = .func (.func g) #[] cs ∧ (callFunc g (vY.toArray ++ cs)).run E.P c.w = .ok (.enter g (vY.toArray ++ cs)) c.w ∧
   Calls E.P g (vY.toArray ++ cs) c.w fun e w' => ∃ v', e = .returned v' ∧ K v' w' := by
 unfold vW at h
 split at h
 ·rename_i g bR
  obtain ⟨rL, ⟨fn, b, h1, h2, h3⟩, L4⟩ := h
  simp only [aK, aP, cJ] at hf
  obtain ⟨cs, rfl, GY⟩ := hf
  refine ⟨g, cs.toArray, rfl, lB h1 h2 h3 _ _, ?_⟩
  have HF := hI.freeze ids
  have eZ : ∀ b o, LY c ids b o → b < c.w.heap.size := fun b o hb => HF.lt (c := BC c ids) hb
  have fD : bI (LY c ids) c.w (PK.map (pz c.rows) ++ bR) (vY ++ cs) := by
   refine cE.2 (a7.append (a7.cV (by simp [fN.length]) fun k p u uL hu => ?_) ?_)
   ·simp at uL
    obtain ⟨q, hq, rfl⟩ := uL
    obtain ⟨u', g1, g2⟩ := fN.get hq
    rw [hu] at g1; cases g1
    exact EH hI hp g2 (rX q (List.mem_of_getElem? hq)) (List.all_eq_true.1 rL _ (by simp; exact ⟨q, List.mem_of_getElem? hq, rfl⟩))
   ·exact (cE.1 GY).mono fun a b gE => cJ.mono (fun _ _ h => .inl h) (fun _ _ _ => rfl) a b gE
  have := L4 c.w (LY c ids) (vY ++ cs) eZ fD
  rw [show (vY ++ cs).toArray = vY.toArray ++ cs.toArray by simp] at this
  refine this.mono ?_
  rintro e w' ⟨v', rfl, hb, S', g1, g2, g3⟩
  refine ⟨v', rfl, ?_⟩
  obtain ⟨hI2, hA2⟩ := HF.grow (c := BC c ids) hb g1 g2
  have hA : rT c { BC c ids with S := S', w := w' } := by
   have hA1 := kQ c ids
   exact ⟨fun b o h => g1 b o (hA1.S b o h), fun b o h => (hA2.w b o (hA1.S b o h)).trans (hA1.w b o h), fun _ h => h, hA1.rows⟩
  exact hK v' { BC c ids with S := S', w := w' } rfl rfl hA hI2 (aK.i0 g3)
 ·exact h.elim
structure nP (w0 : World) (S0 : c9) (n : Nat) (G : Gs) (U : Nat → Prop) (f : Nat → PV) (rows : Rows) (a : Act) (w : World) : Prop where
 ex : ∃ c : Cx, c.w = w ∧ c.rows = rows ∧ (∀ v, c.used v → U v) ∧ Inv w0 S0 c ∧ (∀ s, aK c (f s) (a.tmps.getD s undef)) ∧ ∀ p ∈ G, aK c p.1 p.2
 size : a.tmps.size = n
 defers : a.defers = []
abbrev Rel (w0 : World) (S0 : c9) (n : Nat) (G : Gs) (σ : PS) (a : Act) (w : World) : Prop := nP w0 S0 n G (fun v => v < σ.clock) σ.f σ.rows a w
theorem nP.mono {w0 : World} {S0 : c9} {n : Nat} {G : Gs} {U U' : Nat → Prop} {f : Nat → PV} {rows : Rows} {a : Act} {w : World} (hU : ∀ v, U v → U' v) (h : nP w0 S0 n G U f rows a w) : nP w0 S0 n G U' f rows a w := by
 obtain ⟨⟨c, h1, h2, h3, h4⟩, h5, h6⟩ := h
 exact ⟨⟨c, h1, h2, fun v hv => hU v (h3 v hv), h4⟩, h5, h6⟩
theorem mY {n : Nat} {G : Gs} {U : Nat → Prop} {f : Nat → PV} {a : Act} {c' : Cx} {v : PV} {v' : Value} {d : Option Tmp} (hf : ∀ s, aK c (f s) (a.tmps.getD s undef)) (hG : ∀ p ∈ G, aK c p.1 p.2) (hn : a.tmps.size = n) (eJ : a.defers = [])
  (hA : rT c c') (hI : Inv w0 S0 c') (hv : aK c' v v') (hd : ∀ t, d = some t → t < n) {f' : Nat → PV} {rows : Rows} (h1 : f' = put f d v) (h2 : rows = c'.rows) (h3 : ∀ v, c'.used v → U v) : nP w0 S0 n G U f' rows (a.put d v') c'.w := by
 refine ⟨⟨c', rfl, h2.symm, h3, hI, fun s => ?_, fun p hp => aK.rU hA _ _ (hG p hp)⟩, ?_, ?_⟩
 ·rw [h1]
  cases d with
  | none => exact aK.rU hA _ _ (hf s)
  | some t =>
   simp only [put, Act.put]
   by_cases hs : s = t
   ·subst hs
    have : s < a.tmps.size := by rw [hn]; exact hd s rfl
    simpa [this] using hv
   ·rw [if_neg hs]
    have := aK.rU hA _ _ (hf s)
    simpa [Array.getElem?_setIfInBounds_ne (Ne.symm hs)] using this
 ·cases d <;> simp [Act.put, hn]
 ·cases d <;> simp [Act.put, eJ]
theorem lW {n : Nat} {G : Gs} {f : Nat → PV} {a : Act} {c' : Cx} {v : PV} {v' : Value} {d : Option Tmp} (hf : ∀ s, aK c (f s) (a.tmps.getD s undef)) (hG : ∀ p ∈ G, aK c p.1 p.2) (hn : a.tmps.size = n) (eJ : a.defers = [])
  (hA : rT c c') (hI : Inv w0 S0 c') (hv : aK c' v v') (hd : ∀ t, d = some t → t < n) {σ : PS} (h1 : σ.f = put f d v) (h2 : σ.rows = c'.rows) (h3 : ∀ v, c'.used v → v < σ.clock) : Rel w0 S0 n G σ (a.put d v') c'.w :=
 mY hf hG hn eJ hA hI hv hd h1 h2 h3
theorem WM {n : Nat} {G : Gs} {f : Nat → PV} {a : Act} {c' : Cx} {v : PV} {v' : Value} {d : Option Tmp} (hf : ∀ s, aK c' (f s) (a.tmps.getD s undef)) (hG : ∀ p ∈ G, aK c' p.1 p.2) (hn : a.tmps.size = n) (eJ : a.defers = [])
  (hI : Inv w0 S0 c') (hv : aK c' v v') (hd : ∀ t, d = some t → t < n) {σ : PS} (h1 : σ.f = put f d v) (h2 : σ.rows = c'.rows) (h3 : ∀ v, c'.used v → v < σ.clock) : Rel w0 S0 n G σ (a.put d v') c'.w :=
 lW hf hG hn eJ (rT.refl c') hI hv hd h1 h2 h3
theorem HG {o : Oper} {a : Act} {f : Nat → PV} (hI : Inv w0 S0 c) (hf : ∀ s, aK c (f s) (a.tmps.getD s undef)) {v : PV} {u : Option (Nat × Row)} (h : ys E o.op (aR f) c.rows v u)
  {K : Act → World → Prop} {Q : Exit → Act → World → Prop}
  (hK : ∀ v' c', c'.rows = fE c.rows u → c'.used = c.used → rT c c' → Inv w0 S0 c' → aK c' v v' → K (a.put o.dst v') c'.w) : o.wp E.P a c.w K Q := by
 have hρ := kP hf
 have plain : yv E o.op (aR f) c.rows v ∧ u = none → o.wp E.P a c.w K Q := by
  rintro ⟨hv, rfl⟩
  obtain ⟨v', h1, h2⟩ := ahl hI hf hv
  unfold Oper.wp
  rw [h1]
  exact hK v' c rfl rfl (rT.refl c) hI h2
 obtain ⟨dst, op, type, pos, after, guard⟩ := o
 simp only at h hK plain
 unfold ys at h
 split at h
 ·rename_i t p x
  obtain ⟨rfl, w', h1, h2, h3⟩ := L3 hI (hρ p) (hρ x) h
  unfold Oper.wp
  have : (execOp a.eval { dst := dst, op := .store t p x, type := type, pos := pos, after := after, guard := guard }).run E.P c.w = .ok .skip w' := by simp [execOp, h1]
  rw [this]
  exact hK undef { c with w := w', rows := fE c.rows u } rfl rfl h3 h2 (by simp [aK, aP])
 ·rename_i t len parts
  obtain ⟨h, rfl⟩ := h
  unfold LZ at h
  split at h
  ·rename_i e n bb z hE
   obtain ⟨els, h1, h2, h3, h4, h5, h6, rfl⟩ := h
   obtain ⟨v', c', g1, g2, g3, g4, g5, g6⟩ := yL hI hE hρ h1 h2 h3 h4 h5 h6
   unfold Oper.wp
   have : (execOp a.eval { dst := dst, op := .buildSlice t len parts, type := type, pos := pos, after := after, guard := guard }).run E.P c.w = .ok (.value v') c'.w := by
    simp only [execOp, Sem.run_bind, g1, Result.andThen_ok, Sem.run_pure]
   rw [this]
   exact hK v' c' g2 g3 g5 g4 g6
  ·exact h.elim
 ·rename_i fo args ts
  obtain ⟨rfl, hc, rX⟩ := h
  have fN : a7 (aK c) (args.toList.map fun x => aR f x) (args.map a.eval).toList := by
   refine a7.cV (by simp) fun k p u hp hu => ?_
   simp at hp hu
   obtain ⟨x, hx, rfl⟩ := hp
   obtain ⟨y, hy, rfl⟩ := hu
   rw [hx] at hy; cases hy
   exact hρ x
  have hc' : vW E (aR f fo) ((args.toList.map fun x => aR f x).map (pz c.rows)) v := by rw [List.map_map]; exact hc
  obtain ⟨g, cs, h1, h2, h3⟩ := vX hI (ids := []) (by simp) (hρ fo) fN (by
   intro p hp id gL
   simp at hp
   obtain ⟨x, hx, rfl⟩ := hp
   have : id ∈ args.toList.flatMap fun x => dA (aR f x) := by simp only [List.mem_flatMap]; exact ⟨x, by simpa using hx, gL⟩
   rw [rX] at this; exact this) hc' (K := fun v' w' => K (a.put dst v') w') (fun v' c' q1 q2 q3 q4 q5 => hK v' c' (by rw [q1]; funext j; simp [CL, fE]) q2 q3 q4 q5)
  unfold Oper.wp
  have i3 : (execOp a.eval { dst := dst, op := .call { callee := .value fo, args := args, argTypes := ts }, type := type, pos := pos, after := after, guard := guard }).run E.P c.w = .ok (.enter g (args.map a.eval ++ cs)) c.w := by
   simp only [execOp, resolve, h1, Deferred.ofValue, Sem.run_bind, Sem.run_pure, Result.andThen_ok, invoke]
   simp only [Array.toArray_toList] at h2
   simpa only [Array.empty_append] using h2
  rw [i3]
  simp only [Array.toArray_toList] at h3
  exact h3.mono fun e w' ⟨v', he, hk⟩ => by subst he; exact hk
 ·exact plain h
end
def room : Nat := 140737488355328
def s5 (rows : Rows) (y : PV) (l : List (List PV)) : Prop :=
 match y with
 | .nil => l = []
 | .sl k => l = k
 | .iZ k => l = k
 | .own id ver off len => ∃ r, rows id = some r ∧ r.ver = ver ∧ l = (r.els.drop off).take len
 | _ => False
def dM (rows : Rows) (ids : List Nat) : Prop := ∀ id ∈ ids, ∀ r, rows id = some r → ∀ e ∈ r.els, ∀ p ∈ e, bY p = true
def EK (K : PS → Prop) (σ : PS) (d : Option Tmp) (v : PV) (id : Nat) (e : TypeId) (n : Nat) (els : List (List PV)) : Prop :=
 K ⟨put σ.f d v, dE σ.rows id (some ⟨σ.clock, e, n, els⟩), σ.clock + 1⟩
def EL (E : Env) (o : Oper) (t : TypeId) (x y : PV) (K : PS → Prop) (σ : PS) : Prop :=
 match E.ty t with
 | .slice e n b _ =>
  ∃ l, s5 σ.rows y l ∧ (∀ e ∈ l, e.length = n) ∧
  match x with
  | .nil => l.length ≤ room ∧ l.length * b ≤ room ∧ EK K σ o.dst (.own (o.dst.getD 0) σ.clock 0 l.length) (o.dst.getD 0) e n l
  | .own id ver off len => ∃ r, σ.rows id = some r ∧ r.ver = ver ∧ off = 0 ∧ len = r.els.length ∧ r.e = e ∧ r.size = n ∧ len + l.length ≤ room ∧ (len + l.length) * b ≤ room ∧
    EK K σ o.dst (.own id σ.clock 0 (len + l.length)) id e n (r.els ++ l)
  | .iZ l0 => (∀ e ∈ l0, e.length = n) ∧ (∀ e ∈ l, ∀ p ∈ e, bY p = true) ∧ l0.length + l.length ≤ room ∧ (l0.length + l.length) * b ≤ room ∧ K (σ.put o.dst (.sl (l0 ++ l)))
  | _ => False
 | _ => False
def CO (K : Nat → (Nat → PV) → Rows → Prop) (ver : Nat) (f : Nat → PV) (rows : Rows) (d : Option Tmp) (v : PV) (id : Nat) (e : TypeId) (n : Nat) (els : List (List PV)) : Prop :=
 K 1 (put f d v) (dE rows id (some ⟨ver, e, n, els⟩))
def mZ (E : Env) (ver : Nat) (o : Oper) (t : TypeId) (x y : PV) (K : Nat → (Nat → PV) → Rows → Prop) (f : Nat → PV) (rows : Rows) : Prop :=
 match E.ty t with
 | .slice e n b _ =>
  ∃ l, s5 rows y l ∧ (∀ e ∈ l, e.length = n) ∧
  match x with
  | .nil => l.length ≤ room ∧ l.length * b ≤ room ∧ CO K ver f rows o.dst (.own (o.dst.getD 0) ver 0 l.length) (o.dst.getD 0) e n l
  | .own id amx off len => ∃ r, rows id = some r ∧ r.ver = amx ∧ off = 0 ∧ len = r.els.length ∧ r.e = e ∧ r.size = n ∧ len + l.length ≤ room ∧ (len + l.length) * b ≤ room ∧
    CO K ver f rows o.dst (.own id ver 0 (len + l.length)) id e n (r.els ++ l)
  | .iZ l0 => (∀ e ∈ l0, e.length = n) ∧ (∀ e ∈ l, ∀ p ∈ e, bY p = true) ∧ l0.length + l.length ≤ room ∧ (l0.length + l.length) * b ≤ room ∧ K 0 (put f o.dst (.sl (l0 ++ l))) rows
  | _ => False
 | _ => False
def WN : TI → Bool
 | .slice .. => true
 | _ => false
def dU (E : Env) (o : Oper) (K : PS → Prop) (σ : PS) : Prop :=
 match o.op with
 | .alloc t => (E.ty t).known = true ∧ EK K σ o.dst (.ptr (o.dst.getD 0) σ.clock 0 0) (o.dst.getD 0) t (E.ty t).size [(E.ty t).zero]
 | .box t x => (E.ty t).known = true ∧ ∃ l, bO (aR σ.f x) = some l ∧ (∀ q ∈ l, gW σ.rows q) ∧ l.length = (E.ty t).size ∧ EK K σ o.dst (.ptr (o.dst.getD 0) σ.clock 0 0) (o.dst.getD 0) t (E.ty t).size [l]
 | .makeSlice t l c =>
  match E.ty t, aR σ.f l, aR σ.f c with
  | .slice e n b z, .int _ x, .int _ y => 0 ≤ x ∧ x ≤ y ∧ y.toNat ≤ room ∧ y.toNat * b ≤ room ∧ EK K σ o.dst (.own (o.dst.getD 0) σ.clock 0 x.toNat) (o.dst.getD 0) e n (List.replicate x.toNat z)
  | _, _, _ => False
 | .call { callee := .builtin .append, args := ⟨[x, y]⟩, argTypes := ⟨[t, t2]⟩ } => (t2 = t ∨ WN (E.ty t2) = true) ∧ EL E o t (aR σ.f x) (aR σ.f y) K σ
 | .call { callee := .builtin .copy, args := ⟨[x, y]⟩, argTypes := ⟨[t, _]⟩ } =>
  match E.ty t, aR σ.f x with
  | .slice _ n _ _, .own id ver off len => n = 1 ∧ ∃ r, σ.rows id = some r ∧ r.ver = ver ∧ r.size = n ∧ off + len ≤ r.els.length ∧ 0 < len ∧ ∃ l, s5 σ.rows (aR σ.f y) l ∧ (∀ e ∈ l, e.length = n) ∧
    K ⟨put σ.f o.dst (.int .i64 (min l.length len)), dE σ.rows id (some { r with els := r.els.take off ++ l.take len ++ r.els.drop (off + min l.length len) }), σ.clock⟩
  | _, _ => False
 | .call { callee := .value f, args := args, argTypes := _ } => if ahn E (aR σ.f f) = true then L0 E (aR σ.f f) (args.toList.map (aR σ.f)) σ.rows σ.clock (fun v rows clk => K ⟨put σ.f o.dst v, rows, clk⟩)
   else ∃ v, vW E (aR σ.f f) (args.toList.map fun x => pz σ.rows (aR σ.f x)) v ∧ dM σ.rows (args.toList.flatMap fun x => dA (aR σ.f x)) ∧
   K ⟨put σ.f o.dst v, CL σ.rows (args.toList.flatMap fun x => dA (aR σ.f x)), σ.clock⟩
 | .makeFunc (.func f) ⟨[]⟩ bR => (bR.toList.map fun x => pz σ.rows (aR σ.f x)).all eY = true ∧ dM σ.rows (bR.toList.flatMap fun x => dA (aR σ.f x)) ∧
   K ⟨put σ.f o.dst (.fn f (bR.toList.map fun x => pz σ.rows (aR σ.f x))), CL σ.rows (bR.toList.flatMap fun x => dA (aR σ.f x)), σ.clock⟩
 | _ => ∃ v u, ys E o.op (aR σ.f) σ.rows v u ∧ K ⟨put σ.f o.dst v, fE σ.rows u, σ.clock⟩
def mP (E : Env) (ver : Nat) (o : Oper) (K : Nat → (Nat → PV) → Rows → Prop) (f : Nat → PV) (rows : Rows) : Prop :=
 match o.op with
 | .alloc t => (E.ty t).known = true ∧ CO K ver f rows o.dst (.ptr (o.dst.getD 0) ver 0 0) (o.dst.getD 0) t (E.ty t).size [(E.ty t).zero]
 | .box t x => (E.ty t).known = true ∧ ∃ l, bO (aR f x) = some l ∧ (∀ q ∈ l, gW rows q) ∧ l.length = (E.ty t).size ∧ CO K ver f rows o.dst (.ptr (o.dst.getD 0) ver 0 0) (o.dst.getD 0) t (E.ty t).size [l]
 | .makeSlice t l c =>
  match E.ty t, aR f l, aR f c with
  | .slice e n b z, .int _ x, .int _ y => 0 ≤ x ∧ x ≤ y ∧ y.toNat ≤ room ∧ y.toNat * b ≤ room ∧ CO K ver f rows o.dst (.own (o.dst.getD 0) ver 0 x.toNat) (o.dst.getD 0) e n (List.replicate x.toNat z)
  | _, _, _ => False
 | .call { callee := .builtin .append, args := ⟨[x, y]⟩, argTypes := ⟨[t, t2]⟩ } => (t2 = t ∨ WN (E.ty t2) = true) ∧ mZ E ver o t (aR f x) (aR f y) K f rows
 | _ => False
theorem s6 {n : Nat} (h : n ≤ room) : n ≤ maxLen := by unfold room at h; simp only [maxLen]; omega
theorem jK {α : Type} {z : List α} : ∀ {x k : Nat} {a : α}, (List.replicate x z).flatten[k]? = some a → z[k % z.length]? = some a
 | 0, k, a, h => by simp at h
 | x + 1, k, a, h => by
  rw [List.replicate_succ, List.flatten_cons] at h
  rcases Nat.lt_or_ge k z.length with hk | hk
  ·rw [List.getElem?_append_left hk] at h
   rw [Nat.mod_eq_of_lt hk]; exact h
  ·rw [List.getElem?_append_right hk] at h
   have := jK h
   rw [← Nat.mod_eq_sub_mod hk] at this; exact this
section
variable {E : Env} {c : Cx} {w0 : World} {S0 : c9}
theorem rY (hI : Inv w0 S0 c) {y : PV} {vy : Value} {l : List (List PV)} {n : Nat} (hy : aK c y vy) (h : s5 c.rows y l) (hn : ∀ e ∈ l, e.length = n) :
  ∃ A cap news, vy = .slice A l.length cap ∧ news.length = l.length * n ∧ a7 (aP c) l.flatten news ∧ (∀ u ∈ news, u.oneCell' = true) ∧ (A = none → l = []) ∧
   ∀ a, A = some a → ∀ j u, news[j]? = some u → c.w.cell? (a.add j) = some u := by
 have fl : ∀ {l : List (List PV)}, (∀ e ∈ l, e.length = n) → l.flatten.length = l.length * n := by
  intro l
  induction l with
  | nil => intro _; simp
  | cons e l ih => intro h; rw [List.flatten_cons, List.length_append, ih (fun e he => h e (by simp [he])), h e (by simp), List.length_cons, Nat.add_mul]; omega
 have at_ : ∀ (g o cap : Nat), vy = .slice (some ⟨g, o, none⟩) l.length cap →
   (∀ k e, l[k]? = some e → ∀ j p, e[j]? = some p → ∃ v, c.w.cell? ⟨g, o + (k * n + j), none⟩ = some v ∧ v.oneCell' = true ∧ aP c p v) → ∃ A cap news, vy = .slice A l.length cap ∧ news.length = l.length * n ∧ a7 (aP c) l.flatten news ∧ (∀ u ∈ news, u.oneCell' = true) ∧ (A = none → l = []) ∧
   ∀ a, A = some a → ∀ j u, news[j]? = some u → c.w.cell? (a.add j) = some u := by
  intro g o cap hv hc
  have cellAt : ∀ k, k < l.length * n → ∃ p v, l.flatten[k]? = some p ∧ c.w.cell? ⟨g, o + k, none⟩ = some v ∧ v.oneCell' = true ∧ aP c p v := by
   intro k hk
   have hn0 : 0 < n := by
    rcases Nat.eq_zero_or_pos n with h | h
    ·subst h; simp at hk
    ·exact h
   have hq : k / n < l.length := (Nat.div_lt_iff_lt_mul hn0).2 hk
   have he := hn l[k / n] (List.getElem_mem hq)
   have hj : k % n < l[k / n].length := by rw [he]; exact Nat.mod_lt _ hn0
   have PL : k / n * n + k % n = k := by rw [Nat.mul_comm]; exact Nat.div_add_mod k n
   obtain ⟨v, h1, h2, h3⟩ := hc (k / n) _ (List.getElem?_eq_getElem hq) (k % n) _ (List.getElem?_eq_getElem hj)
   rw [PL] at h1
   have := iM hn (List.getElem?_eq_getElem hq) (List.getElem?_eq_getElem hj)
   rw [PL] at this
   exact ⟨_, v, this, h1, h2, h3⟩
  have hnl : ((List.range (l.length * n)).map fun k => (c.w.cell? ⟨g, o + k, none⟩).getD undef).length = l.length * n := by simp
  have WB : ∀ k u, ((List.range (l.length * n)).map fun k => (c.w.cell? ⟨g, o + k, none⟩).getD undef)[k]? = some u → k < l.length * n ∧ ∃ p, l.flatten[k]? = some p ∧ c.w.cell? ⟨g, o + k, none⟩ = some u ∧ u.oneCell' = true ∧ aP c p u := by
   intro k u hu
   have hk : k < l.length * n := by rw [← hnl]; exact (List.getElem?_eq_some_iff.1 hu).1
   obtain ⟨p, v, h1, h2, h3, h4⟩ := cellAt k hk
   rw [List.getElem?_map, List.getElem?_range hk] at hu
   simp only [Option.map_some, h2, Option.getD_some, Option.some.injEq] at hu
   subst hu
   exact ⟨hk, p, h1, h2, h3, h4⟩
  refine ⟨some ⟨g, o, none⟩, cap, _, hv, hnl, a7.cV (by rw [hnl, fl hn]) fun k p u hp hu => ?_, fun u hu => ?_, by simp, fun a ha j u hu => ?_⟩
  ·obtain ⟨_, p', h1, _, _, h4⟩ := WB k u hu
   rw [hp] at h1; cases h1; exact h4
  ·obtain ⟨k, hk⟩ := List.getElem?_of_mem hu
   exact (WB k u hk).2.choose_spec.2.2.1
  ·cases ha
   rw [gV]
   exact (WB j u hu).2.choose_spec.2.1
 have empty : ∀ A cap, vy = .slice A l.length cap → l = [] → ∃ A cap news, vy = .slice A l.length cap ∧ news.length = l.length * n ∧ a7 (aP c) l.flatten news ∧ (∀ u ∈ news, u.oneCell' = true) ∧ (A = none → l = []) ∧
   ∀ a, A = some a → ∀ j u, news[j]? = some u → c.w.cell? (a.add j) = some u := by
  rintro A cap hv rfl
  exact ⟨A, cap, [], hv, by simp, trivial, by simp, by simp, by simp⟩
 unfold s5 at h
 split at h
 ·subst h
  simp only [aK, aP, cJ] at hy
  exact empty none 0 (by rw [hy]; rfl) rfl
 ·subst h
  simp only [aK, aP, cJ] at hy
  obtain ⟨A, cap, rfl, _, _, hh⟩ := hy
  rcases hh with hh | ⟨g, o, rfl, hr⟩
  ·exact empty A cap rfl hh
  ·refine at_ g o cap rfl fun k e hk j p hj => ?_
   obtain ⟨v, h1, _, h3, h4⟩ := gF (iF hr hn hk) hj
   exact ⟨v, by rw [← Nat.add_assoc]; exact h1, h3, aP.i0 h4⟩
 ·subst h
  simp only [aK, aP, cJ] at hy
  obtain ⟨A, rfl, _, hh⟩ := hy
  rcases hh with hh | ⟨g, o, rfl, hr⟩
  ·exact empty A _ rfl hh
  ·refine at_ g o _ rfl fun k e hk j p hj => ?_
   obtain ⟨v, h1, _, h3, h4⟩ := gF (iF hr hn hk) hj
   exact ⟨v, by rw [← Nat.add_assoc]; exact h1, h3, aP.i0 h4⟩
 ·rename_i id ver off len
  obtain ⟨r, hr, jJ, rfl⟩ := h
  simp only [aK, aP] at hy
  obtain ⟨hle, hy⟩ := hy.2 r hr jJ
  have BH : ((r.els.drop off).take len).length = len := by simp; omega
  rw [← BH] at hy
  have mN : ∀ k e, ((r.els.drop off).take len)[k]? = some e → r.els[off + k]? = some e ∧ r.size = n := by
   intro k e hk
   have vS := hk
   rw [List.getElem?_take] at hk
   split at hk
   ·rw [List.getElem?_drop] at hk
    refine ⟨hk, ?_⟩
    rw [← hn e (List.mem_of_getElem? vS)]
    exact ((hI.row id r hr).len e (List.mem_of_getElem? hk)).symm
   ·cases hk
  rcases hy with ⟨h0, A, m, cap, hβ, rfl⟩ | ⟨kH, g, m, cap, A, hβ, hoc, rfl, ha⟩
  ·subst h0
   rcases Nat.eq_zero_or_pos len with h0 | h0
   ·exact empty A cap rfl (List.eq_nil_of_length_eq_zero (by rw [BH]; exact h0))
   ·obtain ⟨g, jR, pA⟩ := o9 hI hr (by omega)
    rw [hβ] at pA
    simp only [Value.slice.injEq] at pA
    obtain ⟨rfl, rfl, rfl⟩ := pA
    refine at_ g 0 _ rfl fun k e hk j p hj => ?_
    obtain ⟨hk2, hs⟩ := mN k e hk
    have := sZ hI hr hβ hk2 hj
    rw [hs] at this
    simpa using this
  ·rcases ha with ha | rfl
   ·exact empty _ _ rfl (List.eq_nil_of_length_eq_zero ha)
   ·refine at_ g _ _ rfl fun k e hk j p hj => ?_
    obtain ⟨hk2, hs⟩ := mN k e hk
    have := sZ hI hr hβ hk2 hj
    rw [hs] at this ⊢
    rw [show off * n + (k * n + j) = (off + k) * n + j by rw [Nat.add_mul]; omega]; exact this
 ·exact h.elim
end
section
variable {E : Env} {c : Cx} {w0 : World} {S0 : c9}
theorem u0 (hI : Inv w0 S0 c) {ver : Nat} (PM : ¬ c.used ver) (id : Nat) (e : TypeId) (size n cap : Nat) (els : List (List PV)) (cells : Array Value) (hn : els.length = n) (PF : n ≤ cap) (hcm : cap ≤ maxLen) (mN : cells.size = cap * size)
  (fD : a7 (aP c) els.flatten (cells.toList.take (n * size))) (gX : ∀ u ∈ cells.toList, u.oneCell' = true) (hlen : ∀ e ∈ els, e.length = size) (kH : 0 < size) :
  Inv w0 S0 { c with w := c.w.alloc (.cells cells e), β := dE c.β id (.slice (some ⟨c.w.heap.size, 0, none⟩) n cap), rows := dE c.rows id (some ⟨ver, e, size, els⟩), used := fun v => v = ver ∨ c.used v } ∧
  rT c { c with w := c.w.alloc (.cells cells e), β := dE c.β id (.slice (some ⟨c.w.heap.size, 0, none⟩) n cap), rows := dE c.rows id (some ⟨ver, e, size, els⟩), used := fun v => v = ver ∨ c.used v } := by
 refine hI.set (ob := none) (r' := ⟨ver, e, size, els⟩) (xs := cells.toList.take (n * size)) (World.grownBy_alloc c.w _ none) (by simp) ?_ fD (fun x hx => gX x (List.mem_of_mem_take hx)) hlen kH ?_ PM
 ·have hle : n * size ≤ cap * size := Nat.mul_le_mul_right _ PF
  refine ⟨by simp [hn]; omega, .inr ⟨c.w.heap.size, cap, cells, by simp [hn], hI.below.size, heap_alloc_new c.w _, by simp [hn]; exact PF, hcm, mN, by simp [hn]⟩⟩
 ·intro g hg
  simp [Value.ownBlock] at hg
  exact .inr (by omega)
theorem WO {t : TypeId} {n : Nat} {z : List PV} (h : kI E.P t n z) : ∃ i v, E.P.info? t = some i ∧ i.zero = some v ∧ i.size = n ∧ a7 (aP c) z v.cells.toList ∧ v.cells.size = n ∧ ∀ u ∈ v.cells.toList, u.oneCell' = true := by
 obtain ⟨i, v, h1, h2, h3, h4, h5⟩ := h.ok
 have hl : v.cells.size = n := by rw [← h.len, ← h4]; simp
 refine ⟨i, v, h1, h2, h3, ?_, hl, fun u hu => (Array.all_eq_true_iff_forall_mem.1 h5) u (by simpa using hu)⟩
 rw [← h4]
 refine a7.cV (by simp) fun k a b ha hb => ?_
 simp at ha
 obtain ⟨u, hu, rfl⟩ := ha
 have : v.cells.toList[k]? = some u := by simpa using hu
 rw [this] at hb; cases hb
 exact jQ _
theorem j8 {c' : Cx} {id ver n : Nat} {r : Row} (hr : c'.rows id = some r) (hn : r.els.length = n) (hc : c'.used ver) {A : Option Addr} {cap : Nat} (hβ : c'.β id = .slice A n cap) : aK c' (.own id ver 0 n) (.slice A n cap) := by
 simp only [aK, aP]
 refine ⟨hc, fun r' jP _ => ?_⟩
 rw [hr] at jP; cases jP
 exact ⟨by omega, .inl ⟨by first | rfl | trivial, A, n, cap, hβ, rfl⟩⟩
theorem WQ {c' : Cx} {id ver : Nat} (hc : c'.used ver) {g n cap : Nat} (hβ : c'.β id = .slice (some ⟨g, 0, none⟩) n cap) : aK c' (.ptr id ver 0 0) (.pointer (some ⟨g, 0, none⟩)) := by
 simp only [aK, aP]
 exact ⟨hc, fun r' _ _ => ⟨g, n, cap, hβ, by simp⟩⟩
theorem rM {z : Array Value} {N k : Nat} (hk : k < N) (hz : 0 < z.size) : (madeCells z N).toList[k]? = z.toList[k % z.size]? := by
 have hm : k % z.size < z.size := Nat.mod_lt _ hz
 simp [madeCells, hk, hm]
variable {n : Nat} {G : Gs}
theorem pC {U : Nat → Prop} {ver : Nat} {f : Nat → PV} {rows : Rows} {a : Act} (hr : c.rows = rows) (fA : ∀ v, c.used v → U v) (hf : ∀ s, aK c (f s) (a.tmps.getD s undef)) (hG : ∀ p ∈ G, aK c p.1 p.2) (hn : a.tmps.size = n) (eJ : a.defers = [])
  {K : (Nat → PV) → Rows → Prop} {d : Option Tmp} {v : PV} {id : Nat} {e : TypeId} {sz : Nat} {els : List (List PV)} (h : K (put f d v) (dE rows id (some ⟨ver, e, sz, els⟩))) {v' : Value} {w' : World} {b' : Value}
  (hI : Inv w0 S0 { c with w := w', β := dE c.β id b', rows := dE c.rows id (some ⟨ver, e, sz, els⟩), used := fun v => v = ver ∨ c.used v })
  (hA : rT c { c with w := w', β := dE c.β id b', rows := dE c.rows id (some ⟨ver, e, sz, els⟩), used := fun v => v = ver ∨ c.used v })
  (hv : aK { c with w := w', β := dE c.β id b', rows := dE c.rows id (some ⟨ver, e, sz, els⟩), used := fun v => v = ver ∨ c.used v } v v') (hd : ∀ t, d = some t → t < n) :
  ∃ f' rows', K f' rows' ∧ nP w0 S0 n G (fun v => v = ver ∨ U v) f' rows' (a.put d v') w' := by
 refine ⟨_, _, h, ?_⟩
 have := mY (U := fun v => v = ver ∨ U v) (f' := put f d v) (rows := dE rows id (some ⟨ver, e, sz, els⟩)) hf hG hn eJ hA hI hv hd rfl (by simp [hr]) (fun v hv => hv.imp (fun h => h) (fA v))
 exact this
theorem L5 (hI : Inv w0 S0 c) {w' : World} (hg : c.w.grownBy w' none) {e : TypeId} {sz : Nat} {v' : Value} {els : List (List PV)} {xs : List Value} (gO : w'.ownsRow c.w.heap.size e sz v' els.length xs)
  (fD : a7 (cJ c.S c.w) els.flatten xs) (gX : ∀ u ∈ xs, u.oneCell' = true) (hlen : ∀ e ∈ els, e.length = sz) :
  ∃ c', c'.w = w' ∧ c'.rows = c.rows ∧ c'.used = c.used ∧ Inv w0 S0 c' ∧ rT c c' ∧ aK c' (.sl els) v' := by
 have hb : Below c.w.heap.size c.w w' := ⟨hg.os, hg.tape, hg.output, hg.size, fun k hk => hg.block k hk (by simp)⟩
 obtain ⟨uO, hA⟩ := hI.grow (S' := fun b o => c.S b o ∨ (c.w.heap.size ≤ b ∧ b < w'.heap.size)) hb (fun _ _ h => .inl h) (fun _ _ h => h)
 refine ⟨{ c with S := fun b o => c.S b o ∨ (c.w.heap.size ≤ b ∧ b < w'.heap.size), w := w' }, rfl, rfl, rfl, uO, hA, ?_⟩
 simp only [aK, aP, cJ]
 rcases gO.2 with ⟨rfl, h0⟩ | ⟨g, cap, cur, rfl, hge, hh, PF, hcm, GY, HE⟩
 ·exact ⟨none, 0, by rw [h0], by omega, by simp [maxLen], .inl (List.eq_nil_of_length_eq_zero h0)⟩
 ·refine ⟨_, cap, rfl, PF, hcm, .inr ⟨g, 0, rfl, mW hlen fun k el hk => iL fun j p hj => ?_⟩⟩
  have hf := iM hlen hk hj
  obtain ⟨u, hu, hr⟩ := fD.get hf
  have eZ : g < w'.heap.size := (Array.getElem?_eq_some_iff.1 hh).1
  have CK := gO.cells (g := g) rfl (k * sz + j) u hu
  rw [gV] at CK
  refine ⟨u, ?_, .inr ⟨hge, eZ⟩, gX u (List.mem_of_getElem? hu), cJ.mono hA.S hA.w _ _ hr⟩
  rw [show 0 + k * sz + j = 0 + (k * sz + j) by omega]; exact CK
theorem SS {P : Program} {w : World} {t t2 ty : TypeId} {e e2 : TypeId} {x y : Value} (hu : P.underlying t = some (.slice e)) (hu2 : P.underlying t2 = some (.slice e2)) :
  (Builtin.append_ #[t, t2] ty #[x, y]).run P w = (Builtin.append_ #[t, t] ty #[x, y]).run P w := by
 unfold Builtin.append_
 simp only [List.getElem?_toArray, List.getElem?_cons_zero, List.getElem?_cons_succ, Sem.run_bind, run_underlying hu, Result.andThen_ok]
 cases x <;> simp [run_underlying hu, run_underlying hu2]
theorem acj {E : Env} {t2 : TypeId} (h : WN (E.ty t2) = true) : ∃ e, E.P.underlying t2 = some (.slice e) := by
 cases hE : E.ty t2 with
 | slice e n b z => exact ⟨e, (eI hE).1⟩
 | _ => rw [hE] at h; cases h
theorem yM {U : Nat → Prop} {ver : Nat} (PM : ¬ U ver) {o : Oper} {a : Act} {f : Nat → PV} {rows : Rows} {x y : Operand} {t t2 : TypeId} (hop : o.op = .call { callee := .builtin .append, args := ⟨[x, y]⟩, argTypes := ⟨[t, t2]⟩ }) (ht2 : t2 = t ∨ WN (E.ty t2) = true)
  (hI : Inv w0 S0 c) (hr : c.rows = rows) (fA : ∀ v, c.used v → U v) (hf : ∀ s, aK c (f s) (a.tmps.getD s undef)) (hG : ∀ p ∈ G, aK c p.1 p.2) (hn : a.tmps.size = n) (eJ : a.defers = [])
  (hd : ∀ t, o.dst = some t → t < n) {K : Nat → (Nat → PV) → Rows → Prop} (h : mZ E ver o t (aR f x) (aR f y) K f rows) {K' : Act → World → Prop} {Q : Exit → Act → World → Prop} (hK : ∀ i f' rows' a' w', K i f' rows' → nP w0 S0 n G (fun v => (i = 1 ∧ v = ver) ∨ U v) f' rows' a' w' → K' a' w') : o.wp E.P a c.w K' Q := by
 have hρ := kP hf
 have run : ∀ {v' : Value} {w' : World}, (Builtin.append_ #[t, t] o.type #[a.eval x, a.eval y]).run E.P c.w = .ok v' w' → K' (a.put o.dst v') w' → o.wp E.P a c.w K' Q := by
  intro v' w' h1 h2
  unfold Oper.wp
  have h1' : (Builtin.append_ #[t, t2] o.type #[a.eval x, a.eval y]).run E.P c.w = .ok v' w' := by
   rcases ht2 with rfl | ht2
   ·exact h1
   ·obtain ⟨e2, hu2⟩ := acj ht2
    have hsl : ∃ e, E.P.underlying t = some (.slice e) := by
     unfold mZ at h
     split at h
     ·rename_i e n b z hE; exact ⟨e, (eI hE).1⟩
     ·exact h.elim
    obtain ⟨e, hu⟩ := hsl
    rw [SS hu hu2]; exact h1
  have : (execOp a.eval o).run E.P c.w = .ok (.value v') w' := by
   simp only [execOp, hop, resolve, invoke, builtin, Sem.run_bind, Sem.run_pure, Result.andThen_ok, List.map_toArray, List.map_cons, List.map_nil, h1']
  rw [this]
  exact h2
 unfold mZ at h
 split at h
 ·rename_i e sz b z hE
  obtain ⟨l, hl, hlen, h⟩ := h
  obtain ⟨hu, kH, EJ, i, zv, hi, hz, hs, hby, LX, _⟩ := eI hE
  have BD : zv.cells.size = sz := by rw [← EJ, ← LX]; simp
  rw [← hr] at hl
  obtain ⟨A, cap, news, hvy, g1, g2, g3, g4, g5⟩ := rY hI (hρ y) hl hlen
  have main : ∀ (vx : Value) (k : Nat) (xs : List Value), c.w.ownsRow w0.heap.size e sz vx k xs → a.eval x = vx → k + l.length ≤ room → (k + l.length) * b ≤ room →
    ∃ v' w', (Builtin.append_ #[t, t] o.type #[a.eval x, a.eval y]).run E.P c.w = .ok v' w' ∧ w'.ownsRow w0.heap.size e sz v' (k + l.length) (xs ++ news) ∧ c.w.grownBy w' vx.ownBlock ∧ (v'.ownBlock = vx.ownBlock ∨ v'.ownBlock = some c.w.heap.size) := by
   intro vx k xs gO hvx EM vZ
   rw [hvx, hvy]
   cases A with
   | some ad =>
    obtain ⟨v', w', q1, q2, q3, _, q5⟩ := run_append_own_at (P := E.P) c.w w0.heap.size t o.type e i zv sz b hu hi hz hs hby BD kH vx k xs gO ad l.length cap news g1 (g5 ad rfl) g3 (s6 EM) (by simpa [room] using vZ) hI.below.size
    exact ⟨v', w', q1, q2, q3, q5⟩
   | none =>
    have uN := g4 rfl
    subst uN
    have hn0 : news = [] := List.eq_nil_of_length_eq_zero (by simpa using g1)
    subst hn0
    refine ⟨vx, c.w, ?_, by simpa using gO, ⟨rfl, rfl, rfl, Nat.le_refl _, fun _ _ _ => rfl⟩, .inl rfl⟩
    rcases gO.2 with ⟨rfl, rfl⟩ | ⟨g, jR, cur, rfl, _, _, PF, _⟩
    ·simp [Builtin.append_, run_underlying hu, Go.sizeOf, typeInfo, hi, Builtin.lenOf, Builtin.firstCells]
    ·simp [Builtin.append_, run_underlying hu, Go.sizeOf, typeInfo, hi, Builtin.lenOf, Builtin.firstCells, PF, storeCells]
  split at h
  ·-- amA nil
   rename_i heq
   obtain ⟨EM, vZ, h⟩ := h
   have hx := hρ x
   rw [heq] at hx
   simp only [aK, aP, cJ] at hx
   obtain ⟨v', w', q1, q2, q3, q4⟩ := main (.slice none 0 0) 0 [] (World.ownsRow_nil _ _ _ _) hx (by simpa using EM) (by simpa using vZ)
   simp only [Nat.zero_add, List.nil_append] at q2
   obtain ⟨uO, hA⟩ := hI.set (ob := none) (id := o.dst.getD 0) (r' := ⟨ver, e, sz, l⟩) (xs := news) q3 (by simp) q2 g2 g3 hlen kH (by
    intro g hg
    rcases q4 with q4 | q4
    ·rw [q4] at hg; simp [Value.ownBlock] at hg
    ·rw [q4] at hg; cases hg; exact .inr (Nat.le_refl _)) (fun hu => PM (fA _ hu))
   have hv : aK { c with w := w', β := dE c.β (o.dst.getD 0) v', rows := dE c.rows (o.dst.getD 0) (some ⟨ver, e, sz, l⟩), used := fun v => v = ver ∨ c.used v } (.own (o.dst.getD 0) ver 0 l.length) v' := by
    have WR : ∃ A' jR, v' = .slice A' l.length jR := by
     rcases q2.2 with ⟨rfl, h0⟩ | ⟨g, jR, cur, rfl, _⟩
     ·exact ⟨none, 0, by rw [h0]⟩
     ·exact ⟨_, jR, rfl⟩
    obtain ⟨A', jR, rfl⟩ := WR
    exact j8 (r := ⟨ver, e, sz, l⟩) (by simp [dE]) rfl (Or.inl rfl) (by simp [dE])
   obtain ⟨f', rows', hk, yN⟩ := pC (K := K 1) hr fA hf hG hn eJ h uO hA hv hd
   exact run q1 (hK 1 f' rows' _ _ hk (yN.mono fun v hv => hv.imp (fun h => ⟨rfl, h⟩) fun h => h))
  ·-- amA a row of its own
   rename_i id amx off len heq
   obtain ⟨r, hrr, jJ, rfl, rfl, he, mN, EM, vZ, h⟩ := h
   rw [← hr] at hrr
   have hx := hρ x
   rw [heq] at hx
   simp only [aK, aP] at hx
   obtain ⟨⟨xs, gO, fD, gX⟩, yO, hnS, _⟩ := hI.row id r hrr
   have hxv : a.eval x = c.β id := by
    rcases (hx.2 r hrr jJ).2 with ⟨_, A', m, jR, hβ, hv⟩ | ⟨h0, _⟩
    ·have hm : m = r.els.length := by
      rw [hβ] at gO
      rcases gO.2 with ⟨h', h0⟩ | ⟨g, amB, cur, h', _⟩
      ·simp at h'; omega
      ·simp at h'; exact h'.2.1
     rw [hv, hβ, hm]
    ·omega
   rw [he, mN] at gO
   obtain ⟨v', w', q1, q2, q3, q4⟩ := main (c.β id) r.els.length xs gO hxv EM vZ
   obtain ⟨uO, hA⟩ := hI.set (ob := (c.β id).ownBlock) (id := id) (r' := ⟨ver, e, sz, r.els ++ l⟩) (xs := xs ++ news) q3 (by
    intro g hg
    refine ⟨(gO.lt g hg).1, fun o => hnS g o hg, fun iW r' jP qG hb => qG (hI.apart iW id r' r g jP hrr hb hg)⟩) (by simpa using q2) (by
     show a7 (aP c) (r.els ++ l).flatten _
     rw [List.flatten_append]; exact fD.append g2) (by
     intro u hu
     rcases List.mem_append.1 hu with hu | hu
     ·exact gX u hu
     ·exact g3 u hu) (by
     intro e' sX
     rcases List.mem_append.1 sX with sX | sX
     ·rw [yO e' sX, mN]
     ·exact hlen e' sX) kH (by
     intro g hg
     rcases q4 with q4 | q4
     ·exact .inl (by rw [← q4]; exact hg)
     ·rw [q4] at hg; cases hg; exact .inr (Nat.le_refl _)) (fun hu => PM (fA _ hu))
   have hv : aK { c with w := w', β := dE c.β id v', rows := dE c.rows id (some ⟨ver, e, sz, r.els ++ l⟩), used := fun v => v = ver ∨ c.used v } (.own id ver 0 (r.els.length + l.length)) v' := by
    have WR : ∃ A' jR, v' = .slice A' (r.els.length + l.length) jR := by
     rcases q2.2 with ⟨rfl, h0⟩ | ⟨g, jR, cur, rfl, _⟩
     ·exact ⟨none, 0, by rw [h0]⟩
     ·exact ⟨_, jR, rfl⟩
    obtain ⟨A', jR, rfl⟩ := WR
    exact j8 (r := ⟨ver, e, sz, r.els ++ l⟩) (by simp [dE]) (by simp) (Or.inl rfl) (by simp [dE])
   obtain ⟨f', rows', hk, yN⟩ := pC (K := K 1) hr fA hf hG hn eJ h uO hA hv hd
   exact run q1 (hK 1 f' rows' _ _ hk (yN.mono fun v hv => hv.imp (fun h => ⟨rfl, h⟩) fun h => h))
  ·-- amA cells that stay, its capacity its length
   rename_i l0 heq
   obtain ⟨yO, PG, EM, vZ, h⟩ := h
   have hx := hρ x
   rw [heq] at hx
   simp only [aK, aP, cJ] at hx
   obtain ⟨A0, hA0, K8, WS⟩ := hx
   have fin : ∀ {v' : Value} {w' : World}, (Builtin.append_ #[t, t] o.type #[a.eval x, a.eval y]).run E.P c.w = .ok v' w' →
     (∃ c', c'.w = w' ∧ c'.rows = c.rows ∧ c'.used = c.used ∧ Inv w0 S0 c' ∧ rT c c' ∧ aK c' (.sl (l0 ++ l)) v') → o.wp E.P a c.w K' Q := by
    rintro v' w' i3 ⟨c', rfl, h2, h3, h4, h5, h6⟩
    refine run i3 (hK 0 _ _ _ _ h ?_)
    exact mY hf hG hn eJ h5 h4 h6 hd rfl (by rw [h2, hr]) (by rw [h3]; exact fun v hv => .inr (fA v hv))
   have ack : a7 (cJ c.S c.w) l.flatten news := by
    refine a7.cV g2.length fun k p u hp hu => ?_
    obtain ⟨u', q1, q2⟩ := g2.get hp
    rw [hu] at q1; cases q1
    have rZ := List.mem_of_getElem? hp
    rw [List.mem_flatten] at rZ
    obtain ⟨e', sX, uL⟩ := rZ
    exact q2.rep (PG e' sX p uL)
   by_cases uN : l = []
   ·subst uN
    refine fin (v' := .slice A0 l0.length l0.length) (w' := c.w) ?_ ⟨c, rfl, rfl, rfl, hI, rT.refl c, ?_⟩
    ·have hn0 : news = [] := List.eq_nil_of_length_eq_zero (by simpa using g1)
     subst hn0
     have hfc : (Builtin.firstCells i.size 0 (.slice A 0 cap)).run E.P c.w = .ok #[] c.w := by
      cases A with
      | none => simp [Builtin.firstCells]
      | some ad => simp [Builtin.firstCells, loadCells, loadCellsFrom]
     rw [hA0, hvy]
     cases A0 with
     | none => simp [Builtin.append_, run_underlying hu, Go.sizeOf, typeInfo, hi, Builtin.lenOf, hfc]
     | some ad0 => simp [Builtin.append_, run_underlying hu, Go.sizeOf, typeInfo, hi, Builtin.lenOf, hfc, storeCells]
    ·simp only [aK, aP, cJ, List.append_nil]
     exact ⟨A0, _, rfl, Nat.le_refl _, K8, WS⟩
   ·have amC : 0 < l.length := List.length_pos_iff.2 uN
    obtain ⟨ad, rfl⟩ : ∃ ad, A = some ad := by
     cases A with
     | none => exact absurd (g4 rfl) uN
     | some ad => exact ⟨ad, rfl⟩
    obtain ⟨A2, amD, acm, hvx, o1, o2, o3, o4, o5⟩ := rY (y := .iZ l0) (vy := a.eval x) (l := l0) hI (by simp only [aK, aP, cJ]; exact ⟨A0, hA0, K8, WS⟩) rfl yO
    rw [hA0] at hvx
    simp only [Value.slice.injEq] at hvx
    obtain ⟨rfl, _, rfl⟩ := hvx
    have acn : a7 (cJ c.S c.w) l0.flatten acm := by
     refine a7.cV o2.length fun k p u hp hu => ?_
     have rZ := List.mem_of_getElem? hp
     rcases WS with rfl | ⟨g, oo, rfl, hre⟩
     ·simp at hp
     ·have ash : l0.flatten.length = l0.length * sz := by rw [o2.length, o1]
      have hk : k < l0.length * sz := by rw [← ash]; exact (List.getElem?_eq_some_iff.1 hp).1
      have hq : k / sz < l0.length := (Nat.div_lt_iff_lt_mul kH).2 hk
      have kX := yO l0[k / sz] (List.getElem_mem hq)
      have hj : k % sz < l0[k / sz].length := by rw [kX]; exact Nat.mod_lt _ kH
      have PL : k / sz * sz + k % sz = k := by rw [Nat.mul_comm]; exact Nat.div_add_mod k sz
      have hfg := iM yO (List.getElem?_eq_getElem hq) (List.getElem?_eq_getElem hj)
      rw [PL, hp] at hfg
      cases hfg
      obtain ⟨u', r1, _, _, r4⟩ := gF (iF hre yO (List.getElem?_eq_getElem hq)) (List.getElem?_eq_getElem hj)
      have := o5 _ rfl k u hu
      rw [gV] at this
      rw [show oo + k / sz * sz + k % sz = oo + k by omega, this] at r1
      cases r1; exact r4
    have grow : ∃ v' w', (Builtin.append_ #[t, t] o.type #[a.eval x, a.eval y]).run E.P c.w = .ok v' w' ∧ w'.ownsRow c.w.heap.size e sz v' (l0.length + l.length) (acm ++ news) ∧ c.w.grownBy w' none := by
     rw [hA0, hvy]
     cases A0 with
     | some ad0 => exact run_append_arg_grows (P := E.P) c.w t o.type e i zv sz b hu hi hz hs hby BD kH ad0 l0.length l0.length acm o1 (o5 ad0 rfl) ad l.length cap news g1 (g5 ad rfl) (by omega) (s6 EM) (by simpa [room] using vZ)
     | none =>
      have asi := o4 rfl
      subst asi
      have ho0 : acm = [] := List.eq_nil_of_length_eq_zero (by simpa using o1)
      subst ho0
      obtain ⟨v', w', q1, q2, q3, _, q5⟩ := run_append_own_at (P := E.P) c.w c.w.heap.size t o.type e i zv sz b hu hi hz hs hby BD kH (.slice none 0 0) 0 [] (World.ownsRow_nil _ _ _ _) ad l.length cap news g1 (g5 ad rfl) g3 (by simpa using s6 EM) (by simpa [room] using vZ) (Nat.le_refl _)
      exact ⟨v', w', q1, by simpa using q2, q3⟩
    obtain ⟨v', w', q1, q2, q3⟩ := grow
    refine fin q1 (L5 hI q3 (els := l0 ++ l) (by simpa using q2) (by rw [List.flatten_append]; exact acn.append ack) (fun u hu => ?_) (fun e' sX => ?_))
    ·rcases List.mem_append.1 hu with hu | hu
     ·exact o3 u hu
     ·exact g3 u hu
    ·rcases List.mem_append.1 sX with sX | sX
     ·exact yO e' sX
     ·exact hlen e' sX
  ·exact h.elim
 ·exact h.elim
end
section
variable {E : Env} {w0 : World} {S0 : c9} {n : Nat} {G : Gs}
theorem EN {P : Program} (w : World) (dT sT ty elem : TypeId) (g o aco amE : Nat) (A : Option Addr) (acp amF : Nat) (cur : Array Value) (t : TypeId) (cs : List Value)
  (hu : P.underlying dT = some (.slice elem)) (hs : (P.info? elem).map (·.size) = some 1)
  (hg : w.heap[g]? = some (.cells cur t (0, 0))) (hn : cs.length = Nat.min acp aco)
  (asj : ∀ a, A = some a → ∀ j v, cs[j]? = some v → w.cell? (a.add j) = some v) (hA : A = none → cs = []) (aho : o + cs.length ≤ cur.size) (h1 : ∀ v ∈ cs, v.oneCell' = true) :
  (Builtin.copy_ #[dT, sT] ty #[.slice (some ⟨g, o, none⟩) aco amE, .slice A acp amF]).run P w =
   .ok (goInt cs.length) (w.setRow g (cur.toList.take o ++ cs ++ cur.toList.drop (o + cs.length)).toArray) := by
 cases A with
 | some a => exact run_copy_row P w dT sT ty elem g o aco amE a acp amF cur t cs hu hs hg hn (asj a rfl) aho h1
 | none =>
  have := hA rfl
  subst this
  cases hq : P.info? elem with
  | none => simp [hq] at hs
  | some i =>
   have uP : Nat.min acp aco = 0 := by simpa using hn.symm
   have amG := setRow_self w g cur t (0, 0) hg
   simp [Builtin.copy_, run_underlying hu, Builtin.lenOf, Builtin.firstCells, Go.sizeOf, typeInfo, hq, uP, storeCells, List.take_append_drop, amG]
theorem s7 {U : Nat → Prop} {ver : Nat} (PM : ¬ U ver) {o : Oper} {a : Act} {w : World} {f : Nat → PV} {rows : Rows} {K : Nat → (Nat → PV) → Rows → Prop} (h : mP E ver o K f rows) (hR : nP w0 S0 n G U f rows a w) (hd : ∀ t, o.dst = some t → t < n)
  {K' : Act → World → Prop} {Q : Exit → Act → World → Prop} (hK : ∀ i f' rows' a' w', K i f' rows' → nP w0 S0 n G (fun v => (i = 1 ∧ v = ver) ∨ U v) f' rows' a' w' → K' a' w') : o.wp E.P a w K' Q := by
 obtain ⟨⟨c, rfl, hr, fA, hI, hf, hG⟩, hn, eJ⟩ := hR
 have hρ := kP hf
 have hfu : ¬ c.used ver := fun hu => PM (fA _ hu)
 have value : ∀ {v' : Value} {w' : World}, (execOp a.eval o).run E.P c.w = .ok (.value v') w' → K' (a.put o.dst v') w' → o.wp E.P a c.w K' Q := by
  intro v' w' h1 h2
  unfold Oper.wp
  rw [h1]
  exact h2
 have newVar : ∀ (t : TypeId) (l : List PV) (vx : Value), (E.ty t).known = true → a7 (aP c) l vx.cells.toList → (∀ u ∈ vx.cells.toList, u.oneCell' = true) → l.length = (E.ty t).size →
   CO K ver f rows o.dst (.ptr (o.dst.getD 0) ver 0 0) (o.dst.getD 0) t (E.ty t).size [l] → (execOp a.eval o).run E.P c.w = .ok (.value (.pointer (some ⟨c.w.heap.size, 0, none⟩))) (c.w.alloc (.cells vx.cells t)) → o.wp E.P a c.w K' Q := by
  intro t l vx hk fD gX hlen hp i3
  have hz := (E.ok t).zero hk
  have mN : vx.cells.size = (E.ty t).size := by rw [← hlen, fD.length]; simp
  obtain ⟨uO, hA⟩ := u0 hI hfu (o.dst.getD 0) t (E.ty t).size 1 1 [l] vx.cells rfl (Nat.le_refl _) (by simp [maxLen]) (by omega) (by
   simp only [List.flatten_cons, List.flatten_nil, List.append_nil]
   rw [List.take_of_length_le (by simp [mN])]; exact fD) gX (by simpa using hlen) hz.pos
  obtain ⟨f', rows', vS, yN⟩ := pC (K := K 1) hr fA hf hG hn eJ hp uO hA (WQ (Or.inl rfl) (g := c.w.heap.size) (n := 1) (cap := 1) (by simp [dE])) hd
  exact value i3 (hK 1 f' rows' _ _ vS (yN.mono fun v hv => hv.imp (fun h => ⟨rfl, h⟩) fun h => h))
 obtain ⟨dst, op, type, pos, after, guard⟩ := o
 simp only at hd value newVar
 unfold mP at h
 simp only at h
 split at h
 ·-- alloc
  rename_i t
  obtain ⟨hk, h⟩ := h
  have hz := (E.ok t).zero hk
  obtain ⟨i, zv, h1, h2, h3, h4, h5, h6⟩ := WO (c := c) hz
  exact newVar t (E.ty t).zero zv hk h4 h6 rfl h (by simp [execOp, Instr.alloc, zeroValue, typeInfo, h1, h2, Go.newVar, newRow])
 ·-- box
  rename_i t x
  obtain ⟨hk, l, hl, gX, hlen, h⟩ := h
  rw [← hr] at gX
  obtain ⟨g1, g2⟩ := lA (hρ x) hl gX
  exact newVar t l (a.eval x) hk g1 g2 hlen h (by simp [execOp, Instr.box, Go.newVar, newRow])
 ·-- makeSlice
  rename_i t l cc
  split at h
  ·rename_i e sz b z k1 x k2 y hE hl hc
   obtain ⟨h0, uQ, EM, vZ, h⟩ := h
   obtain ⟨hu, kH, EJ, i, zv, hi, hz, hs, hby, LX, hzo⟩ := eI hE
   have g1 := hρ l
   have g2 := hρ cc
   rw [hl, b5] at g1
   rw [hc, b5] at g2
   have BD : zv.cells.size = sz := by rw [← EJ, ← LX]; simp
   have ahr : (i.bytes : Int) * y ≤ 281474976710656 := by
    rw [hby]
    have h3 : ((y.toNat * b : Nat) : Int) ≤ room := by exact_mod_cast vZ
    have h4 : ((y.toNat : Nat) : Int) = y := Int.toNat_of_nonneg (by omega)
    rw [Int.natCast_mul, h4] at h3
    simp only [room] at h3
    rw [Int.mul_comm]; omega
   have i3 := run_make (P := E.P) c.w t e i zv hu hi hz k1 k2 x y h0 uQ ahr (by simp only [room] at EM; omega)
   have WT : (execOp a.eval { dst := dst, op := .makeSlice t l cc, type := type, pos := pos, after := after, guard := guard }).run E.P c.w = .ok (.value (.slice (some ⟨c.w.heap.size, 0, none⟩) x.toNat y.toNat)) (c.w.alloc (.cells (madeCells zv.cells (y.toNat * i.size)) e)) := by
    simp [execOp, g1, g2, i3]
   have amH : a7 (aP c) z zv.cells.toList := by
    rw [← LX]
    refine a7.cV (by simp) fun k p u hp hu => ?_
    simp at hp
    obtain ⟨q, hq, rfl⟩ := hp
    have : zv.cells.toList[k]? = some q := by simpa using hq
    rw [this] at hu; cases hu
    exact jQ _
   have hle : x.toNat * sz ≤ y.toNat * sz := Nat.mul_le_mul_right _ (by omega)
   have hL : ((madeCells zv.cells (y.toNat * i.size)).toList.take (x.toNat * sz)).length = x.toNat * sz := by
    rw [List.length_take, Array.length_toList, size_madeCells, hs]; exact Nat.min_eq_left hle
   obtain ⟨uO, hA⟩ := u0 hI hfu (dst.getD 0) e sz x.toNat y.toNat (List.replicate x.toNat z) (madeCells zv.cells (y.toNat * i.size)) (by simp) (by omega) (s6 EM) (by rw [size_madeCells, hs]) (by
    refine a7.cV (by rw [hL]; simp [EJ]) fun k p u hp hu => ?_
    have hk := (List.getElem?_eq_some_iff.1 hu).1
    rw [hL] at hk
    rw [List.getElem?_take, if_pos (by omega), rM (by rw [hs]; omega) (by omega)] at hu
    have uL := jK hp
    rw [EJ, ← BD] at uL
    obtain ⟨u', q1, q2⟩ := amH.get uL
    rw [hu] at q1; cases q1; exact q2) (by
    intro u hu
    obtain ⟨k, hk⟩ := List.getElem?_of_mem hu
    have vS := (List.getElem?_eq_some_iff.1 hk).1
    simp [size_madeCells] at vS
    rw [rM vS (by omega)] at hk
    have := List.mem_of_getElem? hk
    exact (Array.all_eq_true_iff_forall_mem.1 hzo) u (by simpa using this)) (by
    intro e' sX
    rw [List.mem_replicate] at sX
    rw [sX.2, EJ]) kH
   obtain ⟨f', rows', vS, yN⟩ := pC (K := K 1) hr fA hf hG hn eJ h uO hA (j8 (r := ⟨ver, e, sz, List.replicate x.toNat z⟩) (A := some ⟨c.w.heap.size, 0, none⟩) (cap := y.toNat) (by simp [dE]) (by simp) (Or.inl rfl) (by simp [dE])) hd
   exact value WT (hK 1 f' rows' _ _ vS (yN.mono fun v hv => hv.imp (fun h => ⟨rfl, h⟩) fun h => h))
  ·exact h.elim
 ·-- append
  rename_i x y t t2
  obtain ⟨ht2, h⟩ := h
  exact yM PM rfl ht2 hI hr fA hf hG hn eJ hd h hK
 ·exact h.elim
theorem wB {o : Oper} {a : Act} {w : World} {σ : PS} {K : PS → Prop} (h : dU E o K σ) (hR : Rel w0 S0 n G σ a w) (hd : ∀ t, o.dst = some t → t < n)
  {K' : Act → World → Prop} {Q : Exit → Act → World → Prop} (hK : ∀ σ' a' w', K σ' → Rel w0 S0 n G σ' a' w' → K' a' w') : o.wp E.P a w K' Q := by
 obtain ⟨⟨c, rfl, hr, fA, hI, hf, hG⟩, hn, eJ⟩ := hR
 have hρ := kP hf
 have value : ∀ {v' : Value} {w' : World}, (execOp a.eval o).run E.P c.w = .ok (.value v') w' → K' (a.put o.dst v') w' → o.wp E.P a c.w K' Q := by
  intro v' w' h1 h2
  unfold Oper.wp
  rw [h1]
  exact h2
 have amI : (∃ v u, ys E o.op (aR σ.f) σ.rows v u ∧ K ⟨put σ.f o.dst v, fE σ.rows u, σ.clock⟩) → o.wp E.P a c.w K' Q := by
  rintro ⟨v, u, hy, hk⟩
  rw [← hr] at hy
  refine HG hI hf hy fun v' c' h1 h2 h3 h4 h5 => hK _ _ _ hk ?_
  exact lW hf hG hn eJ h3 h4 h5 hd rfl (by simp [h1, hr]) (by rw [h2]; exact fA)
 have nw : mP E σ.clock o (fun i f r => K ⟨f, r, σ.clock + i⟩) σ.f σ.rows → o.wp E.P a c.w K' Q := fun hp =>
  s7 (U := fun v => v < σ.clock) (Nat.lt_irrefl _) hp ⟨⟨c, rfl, hr, fA, hI, hf, hG⟩, hn, eJ⟩ hd fun i f' rows' a' w' hk yN => hK _ _ _ hk (yN.mono fun v hv => by
   show v < σ.clock + i
   rcases hv with ⟨rfl, rfl⟩ | hv
   ·omega
   ·have : v < σ.clock := hv
    omega)
 obtain ⟨dst, op, type, pos, after, guard⟩ := o
 simp only at hd value amI nw
 unfold dU at h
 simp only at h
 split at h
 ·-- alloc
  rename_i t
  exact nw (show mP E σ.clock _ _ σ.f σ.rows from h)
 ·-- box
  rename_i t x
  exact nw (show mP E σ.clock _ _ σ.f σ.rows from h)
 ·-- makeSlice
  rename_i t l cc
  refine nw (show mP E σ.clock _ _ σ.f σ.rows from ?_)
  unfold mP
  simp only
  split at h
  ·exact h
  ·exact h.elim
 ·-- append
  rename_i x y t t2
  obtain ⟨ht2, h⟩ := h
  refine nw (show mP E σ.clock _ _ σ.f σ.rows from ⟨ht2, ?_⟩)
  unfold EL at h
  unfold mZ
  split at h
  ·obtain ⟨l, g1, g2, g3⟩ := h
   refine ⟨l, g1, g2, ?_⟩
   split at g3 <;> exact g3
  ·exact h
 ·-- copy
  rename_i x y t t2
  split at h
  ·rename_i e sz b z id ver off len hE hx
   obtain ⟨rfl, r, hrr, jJ, mN, hle, amC, l, hl, hl1, h⟩ := h
   rw [← hr] at hrr hl
   have gx := hρ x
   rw [hx] at gx
   simp only [aK, aP] at gx
   obtain ⟨_, gx⟩ := gx.2 r hrr jJ
   obtain ⟨hu, kH, EJ, i, zv, hi, hz, hs, hby, LX, hzo⟩ := eI hE
   obtain ⟨A, cap, news, hvy, g1, g2, g3, g4, g5⟩ := rY hI (hρ y) hl hl1
   obtain ⟨⟨xs, gO, fD, gX⟩, yH, hnS, _⟩ := hI.row id r hrr
   obtain ⟨g, jR, hβ⟩ := o9 hI hrr (by omega)
   obtain ⟨ahs, hvx⟩ : ∃ ahs, a.eval x = .slice (some ⟨g, off, none⟩) len ahs := by
    rcases gx with ⟨h0, A', m, amD, L6, hv⟩ | ⟨_, g2, m, amD, A', L6, _, hv, ha⟩
    ·rw [hβ] at L6
     simp only [Value.slice.injEq] at L6
     obtain ⟨rfl, _, _⟩ := L6
     exact ⟨_, by rw [hv, h0]⟩
    ·rw [hβ] at L6
     simp only [Value.slice.injEq, Option.some.injEq, Addr.mk.injEq, and_true] at L6
     obtain ⟨rfl, _, _⟩ := L6
     rcases ha with ha | ha
     ·omega
     ·exact ⟨_, by rw [hv, ha, mN, Nat.mul_one]⟩
   have amu := gO
   rw [hβ] at gO
   rcases gO.2 with ⟨h', _⟩ | ⟨g', amB, cur, h', hge, hg, PF, hcm, GY, HE⟩
   ·simp at h'
   ·simp only [Value.slice.injEq, Option.some.injEq, Addr.mk.injEq, and_true] at h'
    obtain ⟨rfl, _, rfl⟩ := h'
    rw [mN, Nat.mul_one] at GY HE
    have hnl : news.length = l.length := by simpa using g1
    have L7 : (news.take len).length = Nat.min l.length len := by
     rw [List.length_take, hnl]; exact Nat.min_comm _ _
    have hml : Nat.min l.length len ≤ len := Nat.min_le_right _ _
    have i3 := EN (P := E.P) c.w t t2 type e g off len ahs A l.length cap cur r.e (news.take len) hu (by simp [hi, hs]) hg L7
     (fun ad had j v hj => g5 ad had j v (by rw [List.getElem?_take] at hj; split at hj; exact hj; cases hj)) (fun hA => by
      have := g4 hA
      subst this
      have : news = [] := List.eq_nil_of_length_eq_zero (by simpa using hnl)
      simp [this]) (by rw [L7]; omega) (fun v hv => g3 v (List.mem_of_mem_take hv))
    have WT : (execOp a.eval { dst := dst, op := .call { callee := .builtin .copy, args := ⟨[x, y]⟩, argTypes := ⟨[t, t2]⟩ }, type := type, pos := pos, after := after, guard := guard }).run E.P c.w = .ok (.value (goInt (news.take len).length)) (c.w.setRow g (cur.toList.take off ++ news.take len ++ cur.toList.drop (off + (news.take len).length)).toArray) := by
     simp only [execOp, resolve, invoke, builtin, Sem.run_bind, Sem.run_pure, Result.andThen_ok, List.map_toArray, List.map_cons, List.map_nil, hvx, hvy, i3]
    have one : ∀ {l : List (List PV)}, (∀ e ∈ l, e.length = 1) → ∀ k, (l.take k).flatten = l.flatten.take k ∧ (l.drop k).flatten = l.flatten.drop k := by
     intro l
     induction l with
     | nil => intro _ k; simp
     | cons e l ih =>
      intro hh k
      have he := hh e (by simp)
      match e, he with
      | [p], _ =>
       cases k with
       | zero => simp
       | succ k =>
        have := ih (fun e he => hh e (by simp [he])) k
        simp [this.1, this.2]
    have PN : ∀ e ∈ r.els, e.length = 1 := fun e he => by rw [yH e he, mN]
    have avw : r.els.flatten.length = r.els.length := by rw [fD.length, gO.1, mN, Nat.mul_one]
    have hlf : l.flatten.length = l.length := by rw [g2.length, hnl]
    have aff : min l.length len = Nat.min l.length len := rfl
    have WK : (c.w.setRow g (cur.toList.take off ++ news.take len ++ cur.toList.drop (off + (news.take len).length)).toArray).ownsRow w0.heap.size r.e r.size (c.β id) (r.els.take off ++ l.take len ++ r.els.drop (off + min l.length len)).length
      (xs.take off ++ news.take len ++ xs.drop (off + (news.take len).length)) := by
     have BH : (r.els.take off ++ l.take len ++ r.els.drop (off + min l.length len)).length = r.els.length := by simp; omega
     have hxl : xs.length = r.els.length := by rw [gO.1, mN, Nat.mul_one]
     rw [hβ, BH]
     refine ⟨?_, .inr ⟨g, jR, _, rfl, hge, setRow_heap _ g cur _ r.e _ hg, PF, hcm, ?_, ?_⟩⟩
     ·rw [mN, Nat.mul_one]; simp [L7]; omega
     ·rw [mN, Nat.mul_one]; simp [L7]; omega
     ·rw [mN, Nat.mul_one, ← HE]
      have asb : cur.toList.length = jR := by simp [GY]
      simp only
      rw [List.take_append, List.take_append]
      have e1 : List.take r.els.length (cur.toList.take off) = cur.toList.take off := by rw [List.take_take, Nat.min_eq_right (by omega)]
      have e2 : List.take off (cur.toList.take r.els.length) = cur.toList.take off := by rw [List.take_take, Nat.min_eq_left (by omega)]
      rw [e1, e2]
      have e3 : (cur.toList.take off).length = off := by rw [List.length_take]; omega
      have e4 : List.take (r.els.length - off) (news.take len) = news.take len := List.take_of_length_le (by rw [L7]; omega)
      rw [e3, e4]
      congr 1
      rw [List.length_append, e3, List.drop_take]
    have mX : c.w.grownBy (c.w.setRow g (cur.toList.take off ++ news.take len ++ cur.toList.drop (off + (news.take len).length)).toArray) (c.β id).ownBlock := by
     rw [hβ]
     exact ⟨rfl, rfl, rfl, by simp, fun k _ hk => setRow_other _ g k _ (fun e => hk (by simp [Value.ownBlock, e]))⟩
    obtain ⟨uO, hA⟩ := hI.dE (r' := { r with els := r.els.take off ++ l.take len ++ r.els.drop (off + min l.length len) }) hrr mX WK (by
     show a7 (aP c) (r.els.take off ++ l.take len ++ r.els.drop (off + min l.length len)).flatten _
     rw [List.flatten_append, List.flatten_append, (one PN off).1, (one hl1 len).1, (one PN _).2, aff, ← L7]
     exact ((fD.take _).append (g2.take _)).append (fD.drop _)) (by
     intro y' BI
     simp only [List.mem_append] at BI
     rcases BI with (BI | BI) | BI
     ·exact gX y' (List.mem_of_mem_take BI)
     ·exact g3 y' (List.mem_of_mem_take BI)
     ·exact gX y' (List.mem_of_mem_drop BI)) (by
     intro e' sX
     simp only [List.mem_append] at sX
     rw [mN]
     rcases sX with (sX | sX) | sX
     ·exact PN e' (List.mem_of_mem_take sX)
     ·exact hl1 e' (List.mem_of_mem_take sX)
     ·exact PN e' (List.mem_of_mem_drop sX)) rfl rfl (by simp; omega)
    refine value WT (hK _ _ _ h ?_)
    exact lW hf hG hn eJ hA uO (b5.2 (by
     have h9 := L7
     rw [← aff] at h9
     simp only [goInt, h9]
     congr 1
     omega)) hd rfl (by simp [hr]) fA
  ·exact h.elim
 ·-- a call
  rename_i fo args ts
  have fN : a7 (aK c) (args.toList.map fun x => aR σ.f x) (args.map a.eval).toList := by
   refine a7.cV (by simp) fun k p u hp hu => ?_
   simp at hp hu
   obtain ⟨x, hx, rfl⟩ := hp
   obtain ⟨y, hy, rfl⟩ := hu
   rw [hx] at hy; cases hy
   exact hρ x
  split at h
  ·have hfo := hρ fo
   unfold L0 at h
   split at h
   ·rename_i g heq
    rw [heq] at hfo
    obtain ⟨R, ⟨⟨fn, b, h1, h2, h3⟩, L4⟩, hk⟩ := h
    simp only [aK, aP, cJ] at hfo
    obtain ⟨cs, hfv, GY⟩ := hfo
    simp only [bI] at GY
    subst GY
    have pD := L4 w0 S0 c _ (fun p => p ∈ G ∨ ∃ s, p = (σ.f s, a.tmps.getD s undef)) hI hr fA fN (by
     rintro p (hp | ⟨s, rfl⟩)
     ·exact hG p hp
     ·exact hf s)
    simp only [Array.toArray_toList] at pD
    unfold Oper.wp
    have i3 : (execOp a.eval { dst := dst, op := .call { callee := .value fo, args := args, argTypes := ts }, type := type, pos := pos, after := after, guard := guard }).run E.P c.w = .ok (.enter g (args.map a.eval)) c.w := by
     simp only [execOp, resolve, hfv, Deferred.ofValue, Sem.run_bind, Sem.run_pure, Result.andThen_ok, invoke]
     simpa using lB h1 h2 h3 (args.map a.eval) c.w
    rw [i3]
    refine pD.mono ?_
    rintro e w' ⟨v', c', r, jT, rfl, rfl, uO, hG', j9, ahu, hv'⟩
    refine hK _ _ _ (hk _ _ _ j9) ?_
    exact WM (fun s => hG' (σ.f s, a.tmps.getD s undef) (.inr ⟨s, rfl⟩)) (fun p hp => hG' p (.inl hp)) hn eJ uO hv' hd rfl rfl ahu
   ·exact h.elim
  obtain ⟨v, hc, hp, hk⟩ := h
  rw [← hr] at hc hp hk
  have hc' : vW E (aR σ.f fo) ((args.toList.map fun x => aR σ.f x).map (pz c.rows)) v := by rw [List.map_map]; exact hc
  obtain ⟨g, cs, h1, h2, h3⟩ := vX hI (ids := args.toList.flatMap fun x => dA (aR σ.f x)) hp (hρ fo) fN (by
   intro p hp id gL
   simp at hp
   obtain ⟨x, hx, rfl⟩ := hp
   simp only [List.mem_flatMap]; exact ⟨x, by simpa using hx, gL⟩) hc' (K := fun v' w' => K' (a.put dst v') w') (fun v' c' q1 q2 q3 q4 q5 => hK _ _ _ hk (lW hf hG hn eJ q3 q4 q5 hd rfl (by simp [q1]) (by rw [q2]; exact fA)))
  unfold Oper.wp
  have i3 : (execOp a.eval { dst := dst, op := .call { callee := .value fo, args := args, argTypes := ts }, type := type, pos := pos, after := after, guard := guard }).run E.P c.w = .ok (.enter g (args.map a.eval ++ cs)) c.w := by
   simp only [execOp, resolve, h1, Deferred.ofValue, Sem.run_bind, Sem.run_pure, Result.andThen_ok, invoke]
   simp only [Array.toArray_toList] at h2
   simpa only [Array.empty_append] using h2
  rw [i3]
  simp only [Array.toArray_toList] at h3
  exact h3.mono fun e w' ⟨v', he, hk⟩ => by subst he; exact hk
 ·-- a closure
  rename_i g bR
  obtain ⟨rL, hp, hk⟩ := h
  rw [← hr] at rL hp hk
  have HF := hI.freeze (bR.toList.flatMap fun x => dA (aR σ.f x))
  refine value (v' := .func (.func g) #[] (bR.map a.eval)) (w' := c.w) (by simp [execOp, Instr.makeFunc]) (hK _ _ _ hk ?_)
  refine lW (c' := BC c (bR.toList.flatMap fun x => dA (aR σ.f x))) hf hG hn eJ (kQ c _) HF ?_ hd rfl (by simp [BC]) fA
  simp only [aK, aP, cJ]
  refine ⟨(bR.map a.eval).toList, by rw [Array.toArray_toList], cE.2 (a7.cV (by simp) fun k p u uL hu => ?_)⟩
  simp at uL hu
  obtain ⟨x, hx, rfl⟩ := uL
  obtain ⟨y, hy, rfl⟩ := hu
  rw [hx] at hy; cases hy
  have rZ : x ∈ bR.toList := by simpa using Array.mem_of_getElem? hx
  exact EH hI hp (hρ x) (fun id gL => by simp only [List.mem_flatMap]; exact ⟨x, rZ, gL⟩) (List.all_eq_true.1 rL _ (by simp; exact ⟨x, by simpa using rZ, rfl⟩))
 ·exact amI h
end
def gP (op : Op) (ρ : Operand → PV) : List Nat :=
 match op with
 | .load _ p => aZ (ρ p)
 | .fieldAddr _ x _ => aZ (ρ x)
 | .indexAddr _ x _ => aZ (ρ x)
 | .slice _ x _ _ _ => aZ (ρ x)
 | .store _ p x => aZ (ρ p) ++ ((bO (ρ x)).getD []).flatMap aZ
 | .call { callee := .builtin .len, args := ⟨[x]⟩, argTypes := ⟨[_]⟩ } => aZ (ρ x)
 | .call { callee := .builtin .append, args := ⟨[x, y]⟩, argTypes := ⟨[_, _]⟩ } => aZ (ρ x) ++ aZ (ρ y)
 | .nilCheck x => aZ (ρ x)
 | _ => []
def i4 (ids : List Nat) (rows rows' : Rows) : Prop := ∀ id ∈ ids, ∀ r, rows id = some r → rows' id = some r
section
variable {E : Env}
theorem EO {rows rows' : Rows} {p : PV} (h : aZ p = []) : fz rows p = fz rows' p := by cases p <;> simp_all [fz, aZ]
theorem acs {rows rows' : Rows} {p : PV} (h : dA p = []) : pz rows p = pz rows' p := by
 cases p with
 | ag l =>
  simp only [dA, List.flatMap_eq_nil_iff] at h
  simp only [pz]
  congr 1
  exact List.map_congr_left fun q hq => EO (h q hq)
 | _ => simp only [pz, dA] at h ⊢; exact EO h
theorem EP {rows rows' : Rows} {p : PV} (h : i4 (aZ p) rows rows') (ho : gW rows p) : gW rows' p := by
 cases p with
 | own id ver off len => obtain ⟨r, hr, hv⟩ := ho; exact ⟨r, h id (by simp [aZ]) r hr, hv⟩
 | ptr id ver i j => obtain ⟨r, hr, hv⟩ := ho; exact ⟨r, h id (by simp [aZ]) r hr, hv⟩
 | _ => exact ho
theorem SU {rows : Rows} {p : PV} (ho : gW rows p) : ∀ id ∈ aZ p, ∃ r, rows id = some r := by
 intro id gL
 cases p with
 | own iW ver off len => simp [aZ] at gL; subst gL; obtain ⟨r, hr, _⟩ := ho; exact ⟨r, hr⟩
 | ptr iW ver i j => simp [aZ] at gL; subst gL; obtain ⟨r, hr, _⟩ := ho; exact ⟨r, hr⟩
 | _ => simp [aZ] at gL
theorem WU {t : TypeId} {rows rows' : Rows} {p v : PV} (h : i4 (aZ p) rows rows') (hy : rG E t rows p v) : rG E t rows' p v ∧ ∀ id ∈ aZ p, ∃ r, rows id = some r := by
 obtain ⟨hk, hy⟩ := hy
 cases p with
 | ptr id ver i j =>
  obtain ⟨r, hr, hh⟩ := hy
  exact ⟨⟨hk, r, h id (by simp [aZ]) r hr, hh⟩, by simp [aZ]; exact ⟨r, hr⟩⟩
 | rd l => exact ⟨⟨hk, hy⟩, by simp [aZ]⟩
 | _ => exact hy.elim
theorem BJ {t : TypeId} {i : Nat} {rows rows' : Rows} {x v : PV} (h : i4 (aZ x) rows rows') (hy : eG E t rows i x v) : eG E t rows' i x v ∧ ∀ id ∈ aZ x, ∃ r, rows id = some r := by
 unfold eG at *
 split at hy
 ·rename_i fs z hE
  obtain ⟨o, n, b, hf, hy⟩ := hy
  cases x with
  | ptr id ver a j =>
   obtain ⟨⟨r, hr, hv⟩, hh⟩ := hy
   exact ⟨⟨o, n, b, hf, ⟨r, h id (by simp [aZ]) r hr, hv⟩, hh⟩, by simp [aZ]; exact ⟨r, hr⟩⟩
  | rd l => exact ⟨⟨o, n, b, hf, hy⟩, by simp [aZ]⟩
  | _ => exact hy.elim
 ·exact hy.elim
theorem BK {t : TypeId} {rows rows' : Rows} {x ix v : PV} (h : i4 (aZ x) rows rows') (hy : eH E t rows x ix v) : eH E t rows' x ix v ∧ ∀ id ∈ aZ x, ∃ r, rows id = some r := by
 unfold eH at *
 split at hy
 ·split at hy
  ·obtain ⟨h0, hy⟩ := hy
   cases x with
   | own id ver off len =>
    obtain ⟨r, hr, hh⟩ := hy
    exact ⟨⟨h0, r, h id (by simp [aZ]) r hr, hh⟩, by simp [aZ]; exact ⟨r, hr⟩⟩
   | sl l => exact ⟨⟨h0, hy⟩, by simp [aZ]⟩
   | iZ l => exact ⟨⟨h0, hy⟩, by simp [aZ]⟩
   | _ => exact hy.elim
  ·exact hy.elim
 ·split at hy
  ·obtain ⟨h0, hy⟩ := hy
   cases x with
   | ptr id ver a j =>
    obtain ⟨⟨r, hr, hv⟩, hh⟩ := hy
    exact ⟨⟨h0, ⟨r, h id (by simp [aZ]) r hr, hv⟩, hh⟩, by simp [aZ]; exact ⟨r, hr⟩⟩
   | rd l => exact ⟨⟨h0, hy⟩, by simp [aZ]⟩
   | _ => exact hy.elim
  ·exact hy.elim
 ·exact hy.elim
theorem SV {t : TypeId} {rows rows' : Rows} {x v : PV} {lo hi mx : Option PV} (h : i4 (aZ x) rows rows') (hy : mM E t rows x lo hi mx v) : mM E t rows' x lo hi mx v ∧ ∀ id ∈ aZ x, ∃ r, rows id = some r := by
 unfold mM at *
 split at hy
 ·cases x with
  | own id ver off len =>
   obtain ⟨r, hr, hh⟩ := hy
   exact ⟨⟨r, h id (by simp [aZ]) r hr, hh⟩, by simp [aZ]; exact ⟨r, hr⟩⟩
  | nil => exact ⟨hy, by simp [aZ]⟩
  | sl l => exact ⟨hy, by simp [aZ]⟩
  | iZ l => exact ⟨hy, by simp [aZ]⟩
  | _ => exact hy.elim
 ·exact hy.elim
theorem acu {rows rows' : Rows} {x : PV} {n : Nat} (h : i4 (aZ x) rows rows') (hy : SL rows x n) : SL rows' x n ∧ ∀ id ∈ aZ x, ∃ r, rows id = some r := by
 unfold SL at *
 cases x with
 | own id ver off len =>
  obtain ⟨⟨r, hr, hv⟩, hh⟩ := hy
  exact ⟨⟨⟨r, h id (by simp [aZ]) r hr, hv⟩, hh⟩, by simp [aZ]; exact ⟨r, hr⟩⟩
 | nil => exact ⟨hy, by simp [aZ]⟩
 | sl l => exact ⟨hy, by simp [aZ]⟩
 | iZ l => exact ⟨hy, by simp [aZ]⟩
 | _ => exact hy.elim
theorem acv {rows rows' : Rows} {x v : PV} (h : i4 (aZ x) rows rows') (hy : BF rows x v) : BF rows' x v ∧ ∀ id ∈ aZ x, ∃ r, rows id = some r := by
 unfold BF at *
 cases x with
 | ptr id ver i j =>
  obtain ⟨⟨r, hr, hv⟩, hh⟩ := hy
  exact ⟨⟨⟨r, h id (by simp [aZ]) r hr, hv⟩, hh⟩, by simp [aZ]; exact ⟨r, hr⟩⟩
 | rd l => exact ⟨hy, by simp [aZ]⟩
 | _ => exact hy.elim
theorem SW {t : TypeId} {rows rows' : Rows} {p x v : PV} {u : Option (Nat × Row)} (h : i4 (aZ p ++ ((bO x).getD []).flatMap aZ) rows rows') (hy : pB E t rows p x v u) :
  pB E t rows' p x v u ∧ (∀ id ∈ aZ p ++ ((bO x).getD []).flatMap aZ, ∃ r, rows id = some r) ∧ ∃ id r, u = some (id, r) ∧ id ∈ aZ p := by
 obtain ⟨hk, hv, hy⟩ := hy
 cases p with
 | ptr id ver i j =>
  obtain ⟨r, hr, jJ, el, kX, l, hl, gX, hh1, hh2, hh3⟩ := hy
  rw [hl] at h ⊢
  simp only [Option.getD_some] at h ⊢
  refine ⟨⟨hk, hv, r, h id (by simp [aZ]) r hr, jJ, el, kX, l, hl, fun q hq => EP (fun iW yI => h iW ?_) (gX q hq), hh1, hh2, hh3⟩, ?_, ?_⟩
  ·simp only [List.mem_append, List.mem_flatMap]; exact .inr ⟨q, hq, yI⟩
  ·intro iW yI
   simp only [List.mem_append, List.mem_flatMap] at yI
   rcases yI with yI | ⟨q, hq, yI⟩
   ·simp [aZ] at yI; subst yI; exact ⟨r, hr⟩
   ·exact SU (gX q hq) iW yI
  ·exact ⟨id, _, hh3, by simp [aZ]⟩
 | _ => exact hy.elim
theorem afh {op : Op} {ρ : Operand → PV} {rows rows' : Rows} {v : PV} {u : Option (Nat × Row)} (h : i4 (gP op ρ) rows rows') (hy : ys E op ρ rows v u) :
  ys E op ρ rows' v u ∧ (∀ id ∈ gP op ρ, ∃ r, rows id = some r) ∧ ∀ id r, u = some (id, r) → id ∈ gP op ρ := by
 unfold ys at hy ⊢
 split at hy
 ·rename_i t p x
  obtain ⟨h1, h2, id, r, h3, h4⟩ := SW h hy
  exact ⟨h1, h2, fun iW r' hu => by rw [h3] at hu; cases hu; simp only [gP, List.mem_append]; exact .inl h4⟩
 ·rename_i t len parts
  obtain ⟨hy, rfl⟩ := hy
  unfold LZ at hy ⊢
  split at hy
  ·obtain ⟨els, h1, h2, h3, h4, h5, h6, rfl⟩ := hy
   have hfz : ∀ e ∈ els, ∀ p ∈ e, fz rows p = fz rows' p := fun e he p hp => EO (h6 e he p hp)
   refine ⟨⟨⟨els, h1, h2, h3, h4, fun e he p hp => ⟨by rw [← hfz e he p hp]; exact (h5 e he p hp).1, EP (by rw [h6 e he p hp]; intro id gL; cases gL) (h5 e he p hp).2⟩, h6, ?_⟩, rfl⟩, by simp [gP], by simp⟩
   congr 1
   exact List.map_congr_left fun e he => List.map_congr_left fun p hp => hfz e he p hp
  ·exact hy.elim
 ·rename_i f args ts
  obtain ⟨rfl, h1, h2⟩ := hy
  refine ⟨⟨rfl, ?_, h2⟩, by simp [gP], by simp⟩
  have : (args.toList.map fun x => pz rows (ρ x)) = args.toList.map fun x => pz rows' (ρ x) :=
   List.map_congr_left fun x hx => acs (List.flatMap_eq_nil_iff.1 h2 x hx)
  rw [← this]; exact h1
 ·obtain ⟨hy, rfl⟩ := hy
  suffices hs : yv E op ρ rows' v ∧ ∀ id ∈ gP op ρ, ∃ r, rows id = some r from ⟨⟨hs.1, rfl⟩, hs.2, by simp⟩
  unfold yv at hy ⊢
  split at hy
  case h_8 => exact WU h hy
  case h_10 => exact BJ h hy
  case h_11 => exact BK h hy
  case h_12 => exact SV h hy
  case h_16 =>
   simp only [gP] at h ⊢
   unfold vP at hy ⊢
   split at hy
   ·obtain ⟨n, hn, hv⟩ := hy
    have := acu (rows' := rows') h hn
    exact ⟨⟨n, this.1, hv⟩, this.2⟩
   ·exact hy.elim
  case h_19 => exact acv h hy
  all_goals first
   | exact hy.elim
   | exact ⟨hy, by simp [gP]⟩
end
end Pm
