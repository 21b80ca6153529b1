import Derived.Laws.CopyOwn
import Derived.ArgAppend
import Derived.Test.YtbbjgncblhfegaaGreatQaa
set_option linter.unusedSimpArgs false
set_option linter.unusedVariables false
namespace Pm
open Go Go.RowKit
def B3 (rows : Rows) (ids : List Nat) : Rows := fun j => if j ∈ ids then none else rows j
def K3 (c : Cx) (ids : List Nat) : dB := fun b o => c.S b o ∨ ∃ id ∈ ids, (∃ r, c.rows id = some r) ∧ (c.β id).ownBlock = some b
section
variable {E : Env} {c : Cx} {w0 : World} {S0 : dB}
def AX (c : Cx) (ids : List Nat) : Cx := { c with S := K3 c ids, rows := B3 c.rows ids }
theorem kE (c : Cx) (ids : List Nat) : rF c (AX c ids) :=
 ⟨fun _ _ h => .inl h, fun _ _ _ => rfl, fun _ h => h, fun id r hr => by
  simp only [AX, B3] at hr ⊢
  split at hr
  ·cases hr
  ·exact .inr ⟨r, hr, rfl, rfl, rfl, by first | rfl | trivial⟩⟩
theorem Inv.freeze (hI : Inv w0 S0 c) (ids : List Nat) : Inv w0 S0 (AX c ids) := by
 have live : ∀ {k : Nat} {t : Row}, B3 c.rows ids k = some t → c.rows k = some t ∧ k ∉ ids := by
  intro k t h
  simp only [B3] at h
  split at h
  ·cases h
  ·rename_i hk; exact ⟨h, hk⟩
 have aq9 : ∀ {id : Nat} {r : Row} {g : Nat}, c.rows id = some r → (c.β id).ownBlock = some g → w0.heap.size ≤ g ∧ g < c.w.heap.size := by
  intro id r g hr hg
  obtain ⟨⟨ys, g1, _, _⟩, _⟩ := hI.row id r hr
  exact g1.lt g hg
 refine ⟨hI.below, fun b o h => .inl (hI.ext b o h), fun b o h => ?_, hI.lt0, fun id r hr => hI.clock id r (live hr).1, fun id r hr => ?_, fun i j r s g hr hs => hI.apart i j r s g (live hr).1 (live hs).1⟩
 ·rcases h with h | ⟨id, _, ⟨r, hr⟩, hb⟩
  ·exact hI.new b o h
  ·exact .inr (aq9 hr hb)
 ·obtain ⟨jG, hk⟩ := live hr
  obtain ⟨⟨ys, g1, g2, g3⟩, g4, g5, g6⟩ := hI.row id r jG
  refine ⟨⟨ys, g1, g2.mono (aP.rG (kE c ids)), g3⟩, g4, fun g o hg hS => ?_, g6⟩
  rcases hS with h | ⟨iQ, yC, ⟨r', cT⟩, hb⟩
  ·exact g5 g o hg h
  ·have := hI.apart id iQ r r' g jG cT hg hb
   subst this
   exact hk yC
theorem OC (hI : Inv w0 S0 c) {ids : List Nat} (hp : ∀ id ∈ ids, ∀ r, c.rows id = some r → ∀ e ∈ r.els, ∀ p ∈ e, b5 p = true) {id : Nat} (gE : id ∈ ids) {r : Row} (hr : c.rows id = some r)
  {g n cap : Nat} (hβ : c.β id = .slice (some ⟨g, 0, none⟩) n cap) {i j : Nat} {el : List PV} {p : PV} (hi : r.els[i]? = some el) (hj : el[j]? = some p) :
  ∃ v, c.w.cell? ⟨g, i * r.size + j, none⟩ = some v ∧ K3 c ids g (i * r.size + j) ∧ v.oneCell' = true ∧ cL (K3 c ids) c.w p v := by
 obtain ⟨v, h1, h2, h3⟩ := sL hI hr hβ hi hj
 refine ⟨v, h1, .inr ⟨id, gE, ⟨r, hr⟩, by simp [hβ, Value.ownBlock]⟩, h2, ?_⟩
 have h4 := h3.rep (hp id gE r hr el (List.mem_of_getElem? hi) p (List.mem_of_getElem? hj))
 exact cL.mono (fun _ _ h => .inl h) (fun _ _ _ => rfl) _ _ h4
theorem DR (hI : Inv w0 S0 c) {ids : List Nat} (hp : ∀ id ∈ ids, ∀ r, c.rows id = some r → ∀ e ∈ r.els, ∀ p ∈ e, b5 p = true) {p : PV} {v : Value} (h : aP c p v) (rJ : ∀ id ∈ aZ p, id ∈ ids) (uP : b5 (fz c.rows p) = true) :
  cL (K3 c ids) c.w (fz c.rows p) v := by
 have mono : ∀ q u, cL c.S c.w q u → cL (K3 c ids) c.w q u := fun q u => cL.mono (fun _ _ h => .inl h) (fun _ _ _ => rfl) q u
 cases p with
 | own id ver off len =>
  simp only [fz] at uP ⊢
  have gE : id ∈ ids := rJ id (by simp [aZ])
  cases hr : c.rows id with
  | none => simp [hr, b5] at uP
  | some r =>
   simp only [hr] at uP ⊢
   by_cases hv : r.ver = ver
   ·simp only [hv, if_true] at uP ⊢
    simp only [aP] at h
    obtain ⟨hle, h⟩ := h.2 r hr hv
    obtain ⟨⟨xs, gG, _, _⟩, hlen, _⟩ := hI.row id r hr
    have abv : ∀ A m cap, c.β id = .slice A m cap → r.els.length ≤ cap ∧ cap ≤ maxLen := by
     intro A m cap hβ
     rw [hβ] at gG
     rcases gG.2 with ⟨h', hz⟩ | ⟨g, jI, cur, h', _, _, N9, hm, _⟩
     ·simp at h'; exact ⟨by omega, by rw [h'.2.2]; simp⟩
     ·simp at h'; obtain ⟨_, _, rfl⟩ := h'; exact ⟨N9, hm⟩
    have UQ : ((r.els.drop off).take len).length = len := by simp; omega
    have els : ∀ g n cap, c.β id = .slice (some ⟨g, 0, none⟩) n cap → eG (K3 c ids) c.w g (off * r.size) ((r.els.drop off).take len) := by
     intro g n cap hβ
     refine mL (n := r.size) (fun e he => hlen e (List.mem_of_mem_drop (List.mem_of_mem_take he))) fun k e hk => ?_
     rw [List.getElem?_take] at hk
     split at hk
     ·rw [List.getElem?_drop] at hk
      refine iF fun j q hq => ?_
      have := OC hI hp gE hr hβ hk hq
      rw [show off * r.size + k * r.size + j = (off + k) * r.size + j by rw [Nat.add_mul]]; exact this
     ·cases hk
    simp only [cL]
    rw [UQ]
    rcases h with ⟨rfl, A, n, cap, hβ, rfl⟩ | ⟨j6, g, n, cap, A, hβ, hoc, rfl, ha⟩
    ·obtain ⟨c1, c2⟩ := abv _ _ _ hβ
     refine ⟨A, cap, rfl, by omega, c2, ?_⟩
     rcases Nat.eq_zero_or_pos len with h0 | h0
     ·left; exact List.eq_nil_of_length_eq_zero (by rw [UQ]; exact h0)
     ·right
      obtain ⟨g, jI, oN⟩ := oM hI hr (by omega)
      rw [hβ] at oN
      simp only [Value.slice.injEq] at oN
      obtain ⟨rfl, rfl, rfl⟩ := oN
      exact ⟨g, 0, rfl, by simpa using els g _ _ hβ⟩
    ·obtain ⟨c1, c2⟩ := abv _ _ _ hβ
     refine ⟨some A, cap - off, rfl, by omega, by omega, ?_⟩
     rcases ha with rfl | rfl
     ·left; exact List.eq_nil_of_length_eq_zero UQ
     ·right; exact ⟨g, off * r.size, rfl, els g n cap hβ⟩
   ·simp [hv, b5] at uP
 | ptr id ver i j =>
  simp only [fz] at uP ⊢
  have gE : id ∈ ids := rJ id (by simp [aZ])
  cases hr : c.rows id with
  | none => simp [hr, b5] at uP
  | some r =>
   simp only [hr] at uP ⊢
   by_cases hv : r.ver = ver
   ·simp only [hv, if_true] at uP ⊢
    simp only [aP] at h
    obtain ⟨g, n, cap, hβ, rfl⟩ := h.2 r hr hv
    simp only [cL]
    refine ⟨g, i * r.size + j, rfl, iF fun k q hq => ?_⟩
    rw [List.getElem?_drop] at hq
    cases m6 : r.els[i]? with
    | none => simp [List.getD, m6] at hq
    | some el =>
     have OD : el[j + k]? = some q := by simpa [List.getD, m6] using hq
     have := OC hI hp gE hr hβ m6 OD
     rw [show i * r.size + j + k = i * r.size + (j + k) by omega]; exact this
   ·simp [hv, b5] at uP
 | nil =>
  simp only [aP, cL] at h
  subst h
  simp only [fz, cL]
  exact ⟨none, 0, rfl, by simp, by simp [maxLen], .inl (by first | rfl | trivial)⟩
 | iS l =>
  simp only [fz]
  have := mono _ _ (show cL c.S c.w (.iS l) v by simpa only [aP] using h)
  simp only [cL] at this ⊢
  obtain ⟨A, rfl, h1, h2⟩ := this
  exact ⟨A, l.length, rfl, Nat.le_refl _, h1, h2⟩
 | undef => simp [fz, b5] at uP
 | _ => simp only [fz]; exact mono _ _ (by simpa only [aP] using h)
theorem DT (hI : Inv w0 S0 c) {ids : List Nat} (hp : ∀ id ∈ ids, ∀ r, c.rows id = some r → ∀ e ∈ r.els, ∀ p ∈ e, b5 p = true) {p : PV} {v : Value} (h : aI c p v) (rJ : ∀ id ∈ dC p, id ∈ ids) (uP : eV (pz c.rows p) = true) :
  cL (K3 c ids) c.w (pz c.rows p) v := by
 cases p with
 | ag l =>
  obtain ⟨vs, rfl, GN⟩ := h
  simp only [pz, eV] at uP ⊢
  simp only [cL]
  refine ⟨vs, rfl, cB.2 (a7.cY (by simp [GN.length]) fun k q u hq hu => ?_)⟩
  simp at hq
  obtain ⟨q', OD, rfl⟩ := hq
  obtain ⟨u', h1, h2⟩ := GN.get OD
  rw [hu] at h1; cases h1
  refine DR hI hp h2 (fun id gE => rJ id ?_) (List.all_eq_true.1 uP _ (by simp; exact ⟨q', List.mem_of_getElem? OD, rfl⟩))
  simp only [dC, List.mem_flatMap]
  exact ⟨q', List.mem_of_getElem? OD, gE⟩
 | _ =>
  simp only [pz] at uP ⊢
  refine DR hI hp (by simpa only [aI] using h) (fun id gE => rJ id (by simpa only [dC] using gE)) ?_
  revert uP
  simp only [fz]
  first
   | (intro uP; simpa only [eV] using uP)
   | (split
      · split
        · intro _; rfl
        · intro uP; exact uP
      · intro uP; exact uP)
end
theorem vL {α : Type} {n : Nat} : ∀ {els : List (List α)}, (∀ e ∈ els, e.length = n) → ∀ {i : Nat} {el : List α}, els[i]? = some el → ∀ (j : Nat) (l : List α), j + l.length ≤ el.length →
  (els.set i (el.take j ++ l ++ el.drop (j + l.length))).flatten = els.flatten.take (i * n + j) ++ l ++ els.flatten.drop (i * n + j + l.length)
 | [], _, _, _, h, _, _, _ => by simp at h
 | q :: els, hn, 0, el, h, j, l, hjl => by
  simp at h
  subst h
  simp only [List.set_cons_zero, List.flatten_cons, Nat.zero_mul, Nat.zero_add]
  rw [List.take_append_of_le_length (by omega), List.drop_append_of_le_length hjl]
  simp
 | q :: els, hn, i + 1, el, h, j, l, hjl => by
  have hq : q.length = n := hn q (by simp)
  have ih := vL (els := els) (n := n) (fun e he => hn e (by simp [he])) (i := i) (el := el) (by simpa using h) j l hjl
  simp only [List.set_cons_succ, List.flatten_cons, ih]
  have e1 : (i + 1) * n + j = q.length + (i * n + j) := by rw [hq, Nat.add_mul]; omega
  have e2 : (i + 1) * n + j + l.length = q.length + (i * n + j + l.length) := by omega
  rw [e1, show q.length + (i * n + j) + l.length = q.length + (i * n + j + l.length) by omega, List.take_length_add_append, List.drop_length_add_append]
  simp
def oO (E : Env) (t : TypeId) (rows : Rows) (p x v : PV) (u : Option (Nat × Row)) : Prop :=
 (E.ty t).known = true ∧ v = .undef ∧
 match p with
 | .ptr id ver i j => ∃ r, rows id = some r ∧ r.ver = ver ∧ ∃ el, r.els[i]? = some el ∧ ∃ l, bP x = some l ∧ (∀ q ∈ l, gN rows q) ∧ l.length = (E.ty t).size ∧ j + l.length ≤ el.length ∧
   u = some (id, { r with els := r.els.set i (el.take j ++ l ++ el.drop (j + l.length)) })
 | _ => False
def fN (n : Nat) : Nat → List (Nat × PV) → Option (List (List PV))
 | _, [] => some []
 | k, (i, p) :: ps =>
  match bP p with
  | some l => if i = k ∧ l.length = n then (fN n (k + 1) ps).map (l :: ·) else none
  | none => none
def K4 (t : TI) (rows : Rows) (len : Nat) (parts : List (Nat × PV)) (v : PV) : Prop :=
 match t with
 | .slice _ n _ _ => ∃ els, fN n 0 parts = some els ∧ len = els.length ∧ len ≤ 4096 ∧ n ≤ 4096 ∧ (∀ e ∈ els, ∀ p ∈ e, b5 (fz rows p) = true ∧ gN rows p) ∧ (∀ e ∈ els, ∀ p ∈ e, aZ p = []) ∧ v = .iS (els.map fun e => e.map (fz rows))
 | _ => False
def Gs := PV × Value → Prop
instance : Membership (PV × Value) Gs := ⟨fun G p => G p⟩
def Gs.none : Gs := fun _ => False
theorem Gs.GP {p : PV × Value} : ¬ p ∈ Gs.none := id
def RG (P : Program) (f : FuncId) (args : List PV) (rows : Rows) (clk : Nat) (R : PV → Rows → Nat → Prop) : Prop :=
 (∃ fn c, P.funcs[f]? = some fn ∧ fn.body = some c ∧ (fn.name == "runtime.NumGoroutine") = false) ∧
 ∀ (w0 : World) (S0 : dB) (c : Cx) (vs : List Value) (G : Gs), Inv w0 S0 c → c.rows = rows → (∀ v, c.used v → v < clk) → a7 (aI c) args vs → (∀ p ∈ G, aI c p.1 p.2) →
  Calls P f vs.toArray c.w fun e w' => ∃ v c' r jK, e = .returned v ∧ c'.w = w' ∧ Inv w0 S0 c' ∧ (∀ p ∈ G, aI c' p.1 p.2) ∧ R r c'.rows jK ∧ (∀ v, c'.used v → v < jK) ∧ aI c' r v
def agv (E : Env) : PV → Bool
 | .fn g _ => E.writes g
 | _ => false
def vM (P : Program) (g : FuncId) (fC : List PV) (rows : Rows) (clk : Nat) (K : PV → Rows → Nat → Prop) : Prop :=
 ∃ R, RG P g fC rows clk R ∧ ∀ r rows' jK, R r rows' jK → K r rows' jK
def K5 (E : Env) (p : PV) (fC : List PV) (rows : Rows) (clk : Nat) (K : PV → Rows → Nat → Prop) : Prop :=
 match p with
 | .fn g [] => vM E.P g fC rows clk K
 | _ => False
def vN (E : Env) (f : PV) (args : List PV) (v : PV) : Prop :=
 match f with
 | .fn g b8 => (args.all eV = true) ∧ aL E.P g (args ++ b8) v
 | _ => False
def ys (E : Env) (op : Op) (ρ : Operand → PV) (rows : Rows) (v : PV) (u : Option (Nat × Row)) : Prop :=
 match op with
 | .store t p x => oO E t rows (ρ p) (ρ x) v u
 | .buildSlice t len parts => K4 (E.ty t) rows len (parts.toList.map fun x => (x.1, ρ x.2)) v ∧ u = none
 | .call { callee := .value f, args := args, argTypes := _ } => u = none ∧ vN E (ρ f) (args.toList.map fun x => pz rows (ρ x)) v ∧ (args.toList.flatMap fun x => dC (ρ x)) = []
 | op => yv E op ρ rows v ∧ u = none
def eX (rows : Rows) : Option (Nat × Row) → Rows
 | none => rows
 | some (id, r) => dE rows id (some r)
section
variable {E : Env} {c : Cx} {w0 : World} {S0 : dB}
theorem K6 (hI : Inv w0 S0 c) {t : TypeId} {p x v : PV} {u : Option (Nat × Row)} {vp vx : Value} (hp : aI c p vp) (hx : aI c x vx) (h : oO E t c.rows p x v u) :
  v = .undef ∧ ∃ w', (Instr.storeAt t vp vx).run E.P c.w = .ok () w' ∧ Inv w0 S0 { c with w := w', rows := eX c.rows u } ∧ rF c { c with w := w', rows := eX c.rows u } := by
 obtain ⟨hk, rfl, h⟩ := h
 refine ⟨rfl, ?_⟩
 split at h
 ·rename_i id ver i j
  obtain ⟨r, hr, jA, el, m6, l, hl, gO, hlen, hjl, rfl⟩ := h
  simp only [aI, aP] at hp
  obtain ⟨g, n, cap, hβ, rfl⟩ := hp.2 r hr jA
  obtain ⟨⟨xs, gG, eW, aep⟩, yB, hnS, j6⟩ := hI.row id r hr
  obtain ⟨sI, U9⟩ := kN hx hl gO
  have KS : vx.cells.toList.length = l.length := sI.length.symm
  have aly := gG
  rw [hβ] at gG
  rcases gG.2 with ⟨h', _⟩ | ⟨g', jI, cur, h', hge, hg, N9, hcm, F9, GQ⟩
  ·simp at h'
  ·simp only [Value.slice.injEq, Option.some.injEq, Addr.mk.injEq, and_true] at h'
   obtain ⟨rfl, rfl, rfl⟩ := h'
   have hi : i < r.els.length := (List.getElem?_eq_some_iff.1 m6).1
   have awS : el.length = r.size := yB el (List.mem_of_getElem? m6)
   have hmul : i * r.size + r.size ≤ r.els.length * r.size := by rw [← Nat.succ_mul]; exact Nat.mul_le_mul_right _ hi
   have aup : r.els.length * r.size ≤ cap * r.size := Nat.mul_le_mul_right _ N9
   have agw : i * r.size + j + l.length ≤ r.els.length * r.size := by omega
   have lE := run_storeCells_at E.P g (i * r.size + j) r.e vx.cells.toList 0 cur c.w hg (by rw [KS]; omega) U9
   obtain ⟨inf, _, hi1, _, hi2, _, _⟩ := ((E.ok t).zero hk).ok
   have iU : (Instr.storeAt t (.pointer (some ⟨g, i * r.size + j, none⟩)) vx).run E.P c.w = .ok () (c.w.setRow g (cur.toList.take (i * r.size + j) ++ vx.cells.toList ++ cur.toList.drop (i * r.size + j + l.length)).toArray) := by
    have mD : vx.cells.size = inf.size := by rw [hi2, ← hlen, ← KS]; simp
    simp only [Instr.storeAt, Instr.sureAddr, Sem.run_bind, Sem.run_pure, Result.andThen_ok, storeVar, cQ hi1, mD]
    simp only [Nat.add_zero, KS] at lE
    simpa using lE
   refine ⟨_, iU, ?_⟩
   have VA : (c.w.setRow g (cur.toList.take (i * r.size + j) ++ vx.cells.toList ++ cur.toList.drop (i * r.size + j + l.length)).toArray).ownsRow w0.heap.size r.e r.size (c.β id) (r.els.set i (el.take j ++ l ++ el.drop (j + l.length))).length
     (xs.take (i * r.size + j) ++ vx.cells.toList ++ xs.drop (i * r.size + j + l.length)) := by
    rw [hβ, List.length_set]
    refine ⟨?_, .inr ⟨g, cap, _, rfl, hge, setRow_heap _ g cur _ r.e _ hg, N9, hcm, ?_, ?_⟩⟩
    ·have := gG.1
     simp [KS]; omega
    ·simp [KS]; omega
    ·rw [← GQ]
     have ara : cur.toList.length = cap * r.size := by simp [F9]
     simp only
     rw [List.take_append, List.take_append]
     have e1 : List.take (r.els.length * r.size) (cur.toList.take (i * r.size + j)) = cur.toList.take (i * r.size + j) := by
      rw [List.take_take, Nat.min_eq_right (by omega)]
     have e2 : List.take (i * r.size + j) (cur.toList.take (r.els.length * r.size)) = cur.toList.take (i * r.size + j) := by
      rw [List.take_take, Nat.min_eq_left (by omega)]
     rw [e1, e2]
     have e3 : (cur.toList.take (i * r.size + j)).length = i * r.size + j := by rw [List.length_take]; omega
     rw [e3]
     have e4 : List.take (r.els.length * r.size - (i * r.size + j)) vx.cells.toList = vx.cells.toList := List.take_of_length_le (by rw [KS]; omega)
     rw [e4]
     congr 1
     rw [List.length_append, e3, KS, List.drop_take]
   have yD : a7 (aP c) (r.els.set i (el.take j ++ l ++ el.drop (j + l.length))).flatten (xs.take (i * r.size + j) ++ vx.cells.toList ++ xs.drop (i * r.size + j + l.length)) := by
    rw [vL yB m6 j l hjl]
    exact ((eW.take _).append sI).append (eW.drop _)
   have oP : c.w.grownBy (c.w.setRow g (cur.toList.take (i * r.size + j) ++ vx.cells.toList ++ cur.toList.drop (i * r.size + j + l.length)).toArray) (c.β id).ownBlock := by
    rw [hβ]
    exact ⟨rfl, rfl, rfl, by simp, fun k _ hk => setRow_other _ g k _ (fun e => hk (by simp [Value.ownBlock, e]))⟩
   exact hI.dE (r' := { r with els := r.els.set i (el.take j ++ l ++ el.drop (j + l.length)) }) hr oP VA yD (by
    intro y hy
    simp only [List.mem_append] at hy
    rcases hy with (hy | hy) | hy
    ·exact aep y (List.mem_of_mem_take hy)
    ·exact U9 y hy
    ·exact aep y (List.mem_of_mem_drop hy)) (by
    intro e he
    rcases List.mem_or_eq_of_mem_set he with he | rfl
    ·exact yB e he
    ·simp; omega) rfl rfl (by simp)
 ·exact h.elim
end
section
variable {E : Env} {c : Cx} {w0 : World} {S0 : dB}
theorem yE {n : Nat} : ∀ (vs : List (Nat × Value)) (k : Nat) (cells : Array Value), (∀ j x, vs[j]? = some x → x.1 = k + j ∧ x.2.cells.size = n) → cells.size = (k + vs.length) * n →
  ∃ bX, Instr.fill (fun i => some (i * n, n)) cells vs = some bX ∧ bX.toList = cells.toList.take (k * n) ++ vs.flatMap fun x => x.2.cells.toList
 | [], k, cells, _, hs => ⟨cells, rfl, by simp at hs; rw [List.take_of_length_le (by simp [hs])]; simp⟩
 | (i, v) :: vs, k, cells, h, hs => by
  obtain ⟨h1, h2⟩ := h 0 (i, v) (by simp)
  simp only [Nat.add_zero] at h1 h2
  subst h1
  have agw : i * n + n ≤ cells.size := by
   rw [hs, List.length_cons, ← Nat.succ_mul]
   exact Nat.mul_le_mul_right _ (by omega)
  have hz3 : v.cells.toList.zipIdx = v.cells.zipIdx.toList := by simp
  have BV := m7 (i * n) v.cells.toList 0 cells (by simp [h2]; omega)
  have mD : (List.foldl (fun cs (x : Value × Nat) => cs.setIfInBounds (i * n + x.2) x.1) cells v.cells.toList.zipIdx).size = cells.size := by
   have := congrArg List.length BV
   simp only [Array.length_toList] at this
   rw [this]
   simp [h2]
   omega
  obtain ⟨bX, g1, g2⟩ := yE vs (i + 1) (List.foldl (fun cs (x : Value × Nat) => cs.setIfInBounds (i * n + x.2) x.1) cells v.cells.toList.zipIdx)
   (fun j x hx => by have := h (j + 1) x (by simpa using hx); exact ⟨by omega, this.2⟩) (by rw [mD, hs, List.length_cons]; congr 1; omega)
  refine ⟨bX, ?_, ?_⟩
  ·simp only [Instr.fill]
   rw [if_neg (by simp [h2]; omega), ← g1, hz3, Array.foldl_toList]
  ·rw [g2, BV]
   have e1 : (cells.toList.take (i * n + 0)).length = i * n := by rw [List.length_take]; simp; omega
   have e2 : v.cells.toList.length = n := by simp [h2]
   rw [show (i + 1) * n = i * n + n by rw [Nat.add_mul]; omega]
   rw [List.take_append, List.length_append, e1, e2, Nat.sub_self, List.take_zero, List.append_nil, List.take_of_length_le (by rw [List.length_append, e1, e2]; exact Nat.le_refl _)]
   simp [List.append_assoc]
theorem mE {n : Nat} : ∀ {ps : List (Nat × PV)} {k : Nat} {els : List (List PV)}, fN n k ps = some els → els.length = ps.length ∧ (∀ e ∈ els, e.length = n) ∧ ∀ j x, ps[j]? = some x → x.1 = k + j ∧ ∃ e, els[j]? = some e ∧ bP x.2 = some e
 | [], k, els, h => by simp [fN] at h; subst h; simp
 | (i, p) :: ps, k, els, h => by
  simp only [fN] at h
  split at h
  ·rename_i l hl
   split at h
   ·rename_i BU
    rw [Option.map_eq_some_iff] at h
    obtain ⟨DU, h1, rfl⟩ := h
    obtain ⟨g1, g2, g3⟩ := mE h1
    refine ⟨by simp [g1], fun e he => ?_, fun j x hx => ?_⟩
    ·simp at he
     rcases he with rfl | he
     ·exact BU.2
     ·exact g2 e he
    ·match j with
     | 0 => simp at hx; subst hx; exact ⟨by simpa using BU.1, l, by simp, hl⟩
     | j + 1 =>
      obtain ⟨q1, q2⟩ := g3 j x (by simpa using hx)
      exact ⟨by omega, by simpa using q2⟩
   ·cases h
  ·cases h
theorem Inv.arb (hI : Inv w0 S0 c) (o : Obj) : Inv w0 S0 { c with w := c.w.alloc o, S := fun b k => c.S b k ∨ b = c.w.heap.size } ∧ rF c { c with w := c.w.alloc o, S := fun b k => c.S b k ∨ b = c.w.heap.size } := by
 have := hI.grow (w' := c.w.alloc o) (S' := fun b k => c.S b k ∨ b = c.w.heap.size) ((Below.refl _ _).alloc (Nat.le_refl _) o) (fun _ _ h => .inl h) (fun b k h => h.imp (fun h => h) fun h => by subst h; simp)
 exact this
theorem VB {p : PV} {v : Value} (hI : Inv w0 S0 c) (h : aP c p v) (rJ : aZ p = []) (uP : b5 (fz c.rows p) = true) : cL c.S c.w (fz c.rows p) v := by
 have := DR hI (ids := []) (by simp) h (by simp [rJ]) uP
 exact cL.mono (fun b o h => by rcases h with h | ⟨id, gE, _⟩; exact h; cases gE) (fun _ _ _ => rfl) _ _ this
theorem yF (hI : Inv w0 S0 c) {t e : TypeId} {n bb len : Nat} {z : List PV} (hE : E.ty t = .slice e n bb z) {parts : Array (Nat × Operand)} {ρ : Operand → PV} {vρ : Operand → Value} (hρ : ∀ x, aI c (ρ x) (vρ x))
  {els : List (List PV)} (yB : fN n 0 (parts.toList.map fun x => (x.1, ρ x.2)) = some els) (hlen : len = els.length) (hsm : len ≤ 4096) (hn : n ≤ 4096)
  (uP : ∀ e ∈ els, ∀ p ∈ e, b5 (fz c.rows p) = true ∧ gN c.rows p) (rJ : ∀ e ∈ els, ∀ p ∈ e, aZ p = []) :
  ∃ v' c', (Instr.buildSlice t len (parts.map fun (i, x) => (i, vρ x))).run E.P c.w = .ok v' c'.w ∧ c'.rows = c.rows ∧ c'.used = c.used ∧ Inv w0 S0 c' ∧ rF c c' ∧ aI c' (.iS (els.map fun e => e.map (fz c.rows))) v' := by
 obtain ⟨hu, hnp, DV, i, zv, hi, hz, hs, _, K2, _⟩ := eJ hE
 obtain ⟨g1, g2, g3⟩ := mE yB
 have OE : parts.size = els.length := by rw [g1]; simp
 have ard : zv.cells.size = n := by rw [← DV, ← K2]; simp
 have B4 : ∀ j (x : Nat × Value), ((parts.map fun (i, x) => (i, vρ x)).toList)[j]? = some x → x.1 = 0 + j ∧ ∃ e, els[j]? = some e ∧ a7 (aP c) e x.2.cells.toList ∧ ∀ u ∈ x.2.cells.toList, u.oneCell' = true := by
  intro j x hx
  simp at hx
  obtain ⟨a, b, fH, rfl⟩ := hx
  obtain ⟨q1, e, q2, q3⟩ := g3 j (a, ρ b) (by simp; exact ⟨a, b, fH, rfl, rfl⟩)
  have q4 := kN (hρ b) q3 (fun q hq => (uP e (List.mem_of_getElem? q2) q hq).2)
  exact ⟨q1, e, q2, q4.1, q4.2⟩
 obtain ⟨bX, f1, f2⟩ := yE (n := n) (parts.map fun (i, x) => (i, vρ x)).toList 0 ((Array.range (len * n)).map (zv.cells[· % zv.cells.size]!)) (fun j x hx => by
  obtain ⟨q1, e, q2, q3, _⟩ := B4 j x hx
  refine ⟨q1, ?_⟩
  have := q3.length
  rw [g2 e (List.mem_of_getElem? q2)] at this
  simpa using this.symm) (by simp [OE, hlen])
 simp only [Nat.zero_mul, List.take_zero, List.nil_append] at f2
 have iU : (Instr.buildSlice t len (parts.map fun (i, x) => (i, vρ x))).run E.P c.w = .ok (.slice (some ⟨c.w.heap.size, 0, none⟩) len len) (c.w.alloc (.cells bX e)) := by
  have hbound : ¬ (16777216 < len * n) := by
   have : len * n ≤ 4096 * 4096 := Nat.mul_le_mul hsm hn
   omega
  by_cases h0 : len * n = 0
  ·have wX : len = 0 := by
    rcases Nat.mul_eq_zero.1 h0 with h | h
    ·exact h
    ·omega
   have hp0 : parts = #[] := Array.eq_empty_of_size_eq_zero (by omega)
   subst hp0
   subst wX
   simp [Instr.fill] at f1
   subst f1
   have KE : Array.range 0 = #[] := rfl
   simp [Instr.buildSlice, run_underlying hu, cQ hi, newRow, Instr.fill, KE]
  ·have f1' : Instr.fill (fun i => some (i * n, n)) ((Array.range (len * n)).map (zv.cells[· % zv.cells.size]!)) (parts.toList.map fun x => (x.1, vρ x.2)) = some bX := by simpa using f1
   simp only [Instr.buildSlice, Sem.run_bind, run_underlying hu, Result.andThen_ok, cQ hi, hs]
   simp [h0, hbound, newRow, zeroValue, typeInfo, hi, hz, f1']
 obtain ⟨uG, hA⟩ := hI.arb (.cells bX e)
 refine ⟨_, { c with w := c.w.alloc (.cells bX e), S := fun b k => c.S b k ∨ b = c.w.heap.size }, iU, rfl, rfl, uG, hA, ?_⟩
 simp only [aI, aP, cL]
 refine ⟨some ⟨c.w.heap.size, 0, none⟩, by rw [List.length_map, hlen], by rw [List.length_map, ← hlen]; simp [maxLen]; omega, .inr ⟨_, _, rfl, ?_⟩⟩
 refine mL (n := n) (by
  intro e' sJ
  simp at sJ
  obtain ⟨e1, he1, rfl⟩ := sJ
  simpa using g2 e1 he1) fun k el hk => ?_
 simp at hk
 obtain ⟨e1, he1, rfl⟩ := hk
 refine iF fun j p hj => ?_
 simp at hj
 obtain ⟨q, hq, rfl⟩ := hj
 have hkl : k < els.length := (List.getElem?_eq_some_iff.1 he1).1
 obtain ⟨x, hx⟩ : ∃ x, ((parts.map fun (i, x) => (i, vρ x)).toList)[k]? = some x := ⟨_, List.getElem?_eq_getElem (by simp; omega)⟩
 obtain ⟨_, e2, q2, q3, q4⟩ := B4 k x hx
 rw [he1] at q2; cases q2
 obtain ⟨u, hu1, hu2⟩ := q3.get hq
 have alA : bX.toList[k * n + j]? = some u := by
  have e3 : bX.toList = ((parts.map fun (i, x) => (i, vρ x)).toList.map fun x => x.2.cells.toList).flatten := by rw [f2, List.flatMap_def]
  rw [e3]
  refine iG (n := n) (fun e he => ?_) (i := k) (e := x.2.cells.toList) (by rw [List.getElem?_map, hx]; rfl) hu1
  simp only [List.mem_map] at he
  obtain ⟨y, hy, rfl⟩ := he
  obtain ⟨k', vJ⟩ := List.getElem?_of_mem hy
  obtain ⟨_, e4, q5, q6, _⟩ := B4 k' y vJ
  rw [← q6.length]; exact g2 e4 (List.mem_of_getElem? q5)
 refine ⟨u, ?_, .inr rfl, q4 u (List.mem_of_getElem? hu1), ?_⟩
 ·have := heap_alloc_new c.w (.cells bX e)
  rw [cell_of_row _ _ _ _ _ _ this]
  simpa using alA
 ·exact cL.mono hA.S hA.w _ _ (VB hI hu2 (rJ e1 (List.mem_of_getElem? he1) q (List.mem_of_getElem? hq)) (uP e1 (List.mem_of_getElem? he1) q (List.mem_of_getElem? hq)).1)
end
section
variable {E : Env} {c : Cx} {w0 : World} {S0 : dB}
theorem kO {P : Program} {g : FuncId} {fn : Func} {b : Code} (h1 : P.funcs[g]? = some fn) (h2 : fn.body = some b) (h3 : (fn.name == "runtime.NumGoroutine") = false) (args : Array Value) (w : World) :
  (callFunc g args).run P w = .ok (.enter g args) w := by
 simp only [callFunc, Sem.run_bind, program, Sem.run, Result.andThen_ok, h1, h2, h3]
 simp
theorem vO (hI : Inv w0 S0 c) {ids : List Nat} (hp : ∀ id ∈ ids, ∀ r, c.rows id = some r → ∀ e ∈ r.els, ∀ p ∈ e, b5 p = true) {pf : PV} {vf : Value} {OG : List PV} {vP : List Value}
  (hf : aI c pf vf) (fI : a7 (aI c) OG vP) (rJ : ∀ p ∈ OG, ∀ id ∈ dC p, id ∈ ids) {v : PV} (h : vN E pf (OG.map (pz c.rows)) v) {K : Value → World → Prop}
  (hK : ∀ v' c', c'.rows = B3 c.rows ids → c'.used = c.used → rF c c' → Inv w0 S0 c' → aI c' v v' → K v' c'.w) :
  ∃ g cs, vf = .func (.func g) #[] cs ∧ (callFunc g (vP.toArray ++ cs)).run E.P c.w = .ok (.enter g (vP.toArray ++ cs)) c.w ∧
   Calls E.P g (vP.toArray ++ cs) c.w fun e w' => ∃ v', e = .returned v' ∧ K v' w' := by
 unfold vN at h
 split at h
 ·rename_i g b8
  obtain ⟨qW, ⟨fn, b, h1, h2, h3⟩, K7⟩ := h
  simp only [aI, aP, cL] at hf
  obtain ⟨cs, rfl, F9⟩ := hf
  refine ⟨g, cs.toArray, rfl, kO h1 h2 h3 _ _, ?_⟩
  have GR := hI.freeze ids
  have gL : ∀ b o, K3 c ids b o → b < c.w.heap.size := fun b o hb => GR.lt (c := AX c ids) hb
  have eW : bJ (K3 c ids) c.w (OG.map (pz c.rows) ++ b8) (vP ++ cs) := by
   refine cB.2 (a7.append (a7.cY (by simp [fI.length]) fun k p u uF hu => ?_) ?_)
   ·simp at uF
    obtain ⟨q, hq, rfl⟩ := uF
    obtain ⟨u', g1, g2⟩ := fI.get hq
    rw [hu] at g1; cases g1
    exact DT hI hp g2 (rJ q (List.mem_of_getElem? hq)) (List.all_eq_true.1 qW _ (by simp; exact ⟨q, List.mem_of_getElem? hq, rfl⟩))
   ·exact (cB.1 F9).mono fun a b fH => cL.mono (fun _ _ h => .inl h) (fun _ _ _ => rfl) a b fH
  have := K7 c.w (K3 c ids) (vP ++ cs) gL eW
  rw [show (vP ++ cs).toArray = vP.toArray ++ cs.toArray by simp] at this
  refine this.mono ?_
  rintro e w' ⟨v', rfl, hb, S', g1, g2, g3⟩
  refine ⟨v', rfl, ?_⟩
  obtain ⟨hI2, hA2⟩ := GR.grow (c := AX c ids) hb g1 g2
  have hA : rF c { AX c ids with S := S', w := w' } := by
   have hA1 := kE c ids
   exact ⟨fun b o h => g1 b o (hA1.S b o h), fun b o h => (hA2.w b o (hA1.S b o h)).trans (hA1.w b o h), fun _ h => h, hA1.rows⟩
  exact hK v' { AX c ids with S := S', w := w' } rfl rfl hA hI2 (aI.iT g3)
 ·exact h.elim
structure m9 (w0 : World) (S0 : dB) (n : Nat) (G : Gs) (U : Nat → Prop) (f : Nat → PV) (rows : Rows) (a : Act) (w : World) : Prop where
 ex : ∃ c : Cx, c.w = w ∧ c.rows = rows ∧ (∀ v, c.used v → U v) ∧ Inv w0 S0 c ∧ (∀ s, aI c (f s) (a.tmps.getD s undef)) ∧ ∀ p ∈ G, aI c p.1 p.2
 size : a.tmps.size = n
 defers : a.defers = []
abbrev Rel (w0 : World) (S0 : dB) (n : Nat) (G : Gs) (σ : PS) (a : Act) (w : World) : Prop := m9 w0 S0 n G (fun v => v < σ.clock) σ.f σ.rows a w
theorem m9.mono {w0 : World} {S0 : dB} {n : Nat} {G : Gs} {U U' : Nat → Prop} {f : Nat → PV} {rows : Rows} {a : Act} {w : World} (hU : ∀ v, U v → U' v) (h : m9 w0 S0 n G U f rows a w) : m9 w0 S0 n G U' f rows a w := by
 obtain ⟨⟨c, h1, h2, h3, h4⟩, h5, h6⟩ := h
 exact ⟨⟨c, h1, h2, fun v hv => hU v (h3 v hv), h4⟩, h5, h6⟩
theorem mM {n : Nat} {G : Gs} {U : Nat → Prop} {f : Nat → PV} {a : Act} {c' : Cx} {v : PV} {v' : Value} {d : Option Tmp} (hf : ∀ s, aI c (f s) (a.tmps.getD s undef)) (hG : ∀ p ∈ G, aI c p.1 p.2) (hn : a.tmps.size = n) (eK : a.defers = [])
  (hA : rF c c') (hI : Inv w0 S0 c') (hv : aI c' v v') (hd : ∀ t, d = some t → t < n) {f' : Nat → PV} {rows : Rows} (h1 : f' = put f d v) (h2 : rows = c'.rows) (h3 : ∀ v, c'.used v → U v) : m9 w0 S0 n G U f' rows (a.put d v') c'.w := by
 refine ⟨⟨c', rfl, h2.symm, h3, hI, fun s => ?_, fun p hp => aI.rG hA _ _ (hG p hp)⟩, ?_, ?_⟩
 ·rw [h1]
  cases d with
  | none => exact aI.rG hA _ _ (hf s)
  | some t =>
   simp only [put, Act.put]
   by_cases hs : s = t
   ·subst hs
    have : s < a.tmps.size := by rw [hn]; exact hd s rfl
    simpa [this] using hv
   ·rw [if_neg hs]
    have := aI.rG hA _ _ (hf s)
    simpa [Array.getElem?_setIfInBounds_ne (Ne.symm hs)] using this
 ·cases d <;> simp [Act.put, hn]
 ·cases d <;> simp [Act.put, eK]
theorem lK {n : Nat} {G : Gs} {f : Nat → PV} {a : Act} {c' : Cx} {v : PV} {v' : Value} {d : Option Tmp} (hf : ∀ s, aI c (f s) (a.tmps.getD s undef)) (hG : ∀ p ∈ G, aI c p.1 p.2) (hn : a.tmps.size = n) (eK : a.defers = [])
  (hA : rF c c') (hI : Inv w0 S0 c') (hv : aI c' v v') (hd : ∀ t, d = some t → t < n) {σ : PS} (h1 : σ.f = put f d v) (h2 : σ.rows = c'.rows) (h3 : ∀ v, c'.used v → v < σ.clock) : Rel w0 S0 n G σ (a.put d v') c'.w :=
 mM hf hG hn eK hA hI hv hd h1 h2 h3
theorem VC {n : Nat} {G : Gs} {f : Nat → PV} {a : Act} {c' : Cx} {v : PV} {v' : Value} {d : Option Tmp} (hf : ∀ s, aI c' (f s) (a.tmps.getD s undef)) (hG : ∀ p ∈ G, aI c' p.1 p.2) (hn : a.tmps.size = n) (eK : a.defers = [])
  (hI : Inv w0 S0 c') (hv : aI c' v v') (hd : ∀ t, d = some t → t < n) {σ : PS} (h1 : σ.f = put f d v) (h2 : σ.rows = c'.rows) (h3 : ∀ v, c'.used v → v < σ.clock) : Rel w0 S0 n G σ (a.put d v') c'.w :=
 lK hf hG hn eK (rF.refl c') hI hv hd h1 h2 h3
theorem GS {o : Oper} {a : Act} {f : Nat → PV} (hI : Inv w0 S0 c) (hf : ∀ s, aI c (f s) (a.tmps.getD s undef)) {v : PV} {u : Option (Nat × Row)} (h : ys E o.op (aQ f) c.rows v u)
  {K : Act → World → Prop} {Q : Exit → Act → World → Prop}
  (hK : ∀ v' c', c'.rows = eX c.rows u → c'.used = c.used → rF c c' → Inv w0 S0 c' → aI c' v v' → K (a.put o.dst v') c'.w) : o.wp E.P a c.w K Q := by
 have hρ := kD hf
 have plain : yv E o.op (aQ f) c.rows v ∧ u = none → o.wp E.P a c.w K Q := by
  rintro ⟨hv, rfl⟩
  obtain ⟨v', h1, h2⟩ := agt hI hf hv
  unfold Oper.wp
  rw [h1]
  exact hK v' c rfl rfl (rF.refl c) hI h2
 obtain ⟨dst, op, type, pos, after, guard⟩ := o
 simp only at h hK plain
 unfold ys at h
 split at h
 ·rename_i t p x
  obtain ⟨rfl, w', h1, h2, h3⟩ := K6 hI (hρ p) (hρ x) h
  unfold Oper.wp
  have : (execOp a.eval { dst := dst, op := .store t p x, type := type, pos := pos, after := after, guard := guard }).run E.P c.w = .ok .skip w' := by simp [execOp, h1]
  rw [this]
  exact hK undef { c with w := w', rows := eX c.rows u } rfl rfl h3 h2 (by simp [aI, aP])
 ·rename_i t len parts
  obtain ⟨h, rfl⟩ := h
  unfold K4 at h
  split at h
  ·rename_i e n bb z hE
   obtain ⟨els, h1, h2, h3, h4, h5, h6, rfl⟩ := h
   obtain ⟨v', c', g1, g2, g3, g4, g5, g6⟩ := yF hI hE hρ h1 h2 h3 h4 h5 h6
   unfold Oper.wp
   have : (execOp a.eval { dst := dst, op := .buildSlice t len parts, type := type, pos := pos, after := after, guard := guard }).run E.P c.w = .ok (.value v') c'.w := by
    simp only [execOp, Sem.run_bind, g1, Result.andThen_ok, Sem.run_pure]
   rw [this]
   exact hK v' c' g2 g3 g5 g4 g6
  ·exact h.elim
 ·rename_i fo args ts
  obtain ⟨rfl, hc, rJ⟩ := h
  have fI : a7 (aI c) (args.toList.map fun x => aQ f x) (args.map a.eval).toList := by
   refine a7.cY (by simp) fun k p u hp hu => ?_
   simp at hp hu
   obtain ⟨x, hx, rfl⟩ := hp
   obtain ⟨y, hy, rfl⟩ := hu
   rw [hx] at hy; cases hy
   exact hρ x
  have U7 : vN E (aQ f fo) ((args.toList.map fun x => aQ f x).map (pz c.rows)) v := by rw [List.map_map]; exact hc
  obtain ⟨g, cs, h1, h2, h3⟩ := vO hI (ids := []) (by simp) (hρ fo) fI (by
   intro p hp id gE
   simp at hp
   obtain ⟨x, hx, rfl⟩ := hp
   have : id ∈ args.toList.flatMap fun x => dC (aQ f x) := by simp only [List.mem_flatMap]; exact ⟨x, by simpa using hx, gE⟩
   rw [rJ] at this; exact this) U7 (K := fun v' w' => K (a.put dst v') w') (fun v' c' q1 q2 q3 q4 q5 => hK v' c' (by rw [q1]; funext j; simp [B3, eX]) q2 q3 q4 q5)
  unfold Oper.wp
  have iU : (execOp a.eval { dst := dst, op := .call { callee := .value fo, args := args, argTypes := ts }, type := type, pos := pos, after := after, guard := guard }).run E.P c.w = .ok (.enter g (args.map a.eval ++ cs)) c.w := by
   simp only [execOp, resolve, h1, Deferred.ofValue, Sem.run_bind, Sem.run_pure, Result.andThen_ok, invoke]
   simp only [Array.toArray_toList] at h2
   simpa only [Array.empty_append] using h2
  rw [iU]
  simp only [Array.toArray_toList] at h3
  exact h3.mono fun e w' ⟨v', he, hk⟩ => by subst he; exact hk
 ·exact plain h
end
def room : Nat := 140737488355328
def sN (rows : Rows) (y : PV) (l : List (List PV)) : Prop :=
 match y with
 | .nil => l = []
 | .sl k => l = k
 | .iS k => l = k
 | .own id ver off len => ∃ r, rows id = some r ∧ r.ver = ver ∧ l = (r.els.drop off).take len
 | _ => False
def dM (rows : Rows) (ids : List Nat) : Prop := ∀ id ∈ ids, ∀ r, rows id = some r → ∀ e ∈ r.els, ∀ p ∈ e, b5 p = true
def DW (K : PS → Prop) (σ : PS) (d : Option Tmp) (v : PV) (id : Nat) (e : TypeId) (n : Nat) (els : List (List PV)) : Prop :=
 K ⟨put σ.f d v, dE σ.rows id (some ⟨σ.clock, e, n, els⟩), σ.clock + 1⟩
def DX (E : Env) (o : Oper) (t : TypeId) (x y : PV) (K : PS → Prop) (σ : PS) : Prop :=
 match E.ty t with
 | .slice e n b _ =>
  ∃ l, sN σ.rows y l ∧ (∀ e ∈ l, e.length = n) ∧
  match x with
  | .nil => l.length ≤ room ∧ l.length * b ≤ room ∧ DW K σ o.dst (.own (o.dst.getD 0) σ.clock 0 l.length) (o.dst.getD 0) e n l
  | .own id ver off len => ∃ r, σ.rows id = some r ∧ r.ver = ver ∧ off = 0 ∧ len = r.els.length ∧ r.e = e ∧ r.size = n ∧ len + l.length ≤ room ∧ (len + l.length) * b ≤ room ∧
    DW K σ o.dst (.own id σ.clock 0 (len + l.length)) id e n (r.els ++ l)
  | .iS l0 => (∀ e ∈ l0, e.length = n) ∧ (∀ e ∈ l, ∀ p ∈ e, b5 p = true) ∧ l0.length + l.length ≤ room ∧ (l0.length + l.length) * b ≤ room ∧ K (σ.put o.dst (.sl (l0 ++ l)))
  | _ => False
 | _ => False
def B5 (K : Nat → (Nat → PV) → Rows → Prop) (ver : Nat) (f : Nat → PV) (rows : Rows) (d : Option Tmp) (v : PV) (id : Nat) (e : TypeId) (n : Nat) (els : List (List PV)) : Prop :=
 K 1 (put f d v) (dE rows id (some ⟨ver, e, n, els⟩))
def mN (E : Env) (ver : Nat) (o : Oper) (t : TypeId) (x y : PV) (K : Nat → (Nat → PV) → Rows → Prop) (f : Nat → PV) (rows : Rows) : Prop :=
 match E.ty t with
 | .slice e n b _ =>
  ∃ l, sN rows y l ∧ (∀ e ∈ l, e.length = n) ∧
  match x with
  | .nil => l.length ≤ room ∧ l.length * b ≤ room ∧ B5 K ver f rows o.dst (.own (o.dst.getD 0) ver 0 l.length) (o.dst.getD 0) e n l
  | .own id alB off len => ∃ r, rows id = some r ∧ r.ver = alB ∧ off = 0 ∧ len = r.els.length ∧ r.e = e ∧ r.size = n ∧ len + l.length ≤ room ∧ (len + l.length) * b ≤ room ∧
    B5 K ver f rows o.dst (.own id ver 0 (len + l.length)) id e n (r.els ++ l)
  | .iS l0 => (∀ e ∈ l0, e.length = n) ∧ (∀ e ∈ l, ∀ p ∈ e, b5 p = true) ∧ l0.length + l.length ≤ room ∧ (l0.length + l.length) * b ≤ room ∧ K 0 (put f o.dst (.sl (l0 ++ l))) rows
  | _ => False
 | _ => False
def VD : TI → Bool
 | .slice .. => true
 | _ => false
def dR (E : Env) (o : Oper) (K : PS → Prop) (σ : PS) : Prop :=
 match o.op with
 | .alloc t => (E.ty t).known = true ∧ DW K σ o.dst (.ptr (o.dst.getD 0) σ.clock 0 0) (o.dst.getD 0) t (E.ty t).size [(E.ty t).zero]
 | .box t x => (E.ty t).known = true ∧ ∃ l, bP (aQ σ.f x) = some l ∧ (∀ q ∈ l, gN σ.rows q) ∧ l.length = (E.ty t).size ∧ DW K σ o.dst (.ptr (o.dst.getD 0) σ.clock 0 0) (o.dst.getD 0) t (E.ty t).size [l]
 | .makeSlice t l c =>
  match E.ty t, aQ σ.f l, aQ σ.f c with
  | .slice e n b z, .int _ x, .int _ y => 0 ≤ x ∧ x ≤ y ∧ y.toNat ≤ room ∧ y.toNat * b ≤ room ∧ DW K σ o.dst (.own (o.dst.getD 0) σ.clock 0 x.toNat) (o.dst.getD 0) e n (List.replicate x.toNat z)
  | _, _, _ => False
 | .call { callee := .builtin .append, args := ⟨[x, y]⟩, argTypes := ⟨[t, t2]⟩ } => (t2 = t ∨ VD (E.ty t2) = true) ∧ DX E o t (aQ σ.f x) (aQ σ.f y) K σ
 | .call { callee := .builtin .copy, args := ⟨[x, y]⟩, argTypes := ⟨[t, _]⟩ } =>
  match E.ty t, aQ σ.f x with
  | .slice _ n _ _, .own id ver off len => n = 1 ∧ ∃ r, σ.rows id = some r ∧ r.ver = ver ∧ r.size = n ∧ off + len ≤ r.els.length ∧ 0 < len ∧ ∃ l, sN σ.rows (aQ σ.f y) l ∧ (∀ e ∈ l, e.length = n) ∧
    K ⟨put σ.f o.dst (.int .i64 (min l.length len)), dE σ.rows id (some { r with els := r.els.take off ++ l.take len ++ r.els.drop (off + min l.length len) }), σ.clock⟩
  | _, _ => False
 | .call { callee := .value f, args := args, argTypes := _ } => if agv E (aQ σ.f f) = true then K5 E (aQ σ.f f) (args.toList.map (aQ σ.f)) σ.rows σ.clock (fun v rows clk => K ⟨put σ.f o.dst v, rows, clk⟩)
   else ∃ v, vN E (aQ σ.f f) (args.toList.map fun x => pz σ.rows (aQ σ.f x)) v ∧ dM σ.rows (args.toList.flatMap fun x => dC (aQ σ.f x)) ∧
   K ⟨put σ.f o.dst v, B3 σ.rows (args.toList.flatMap fun x => dC (aQ σ.f x)), σ.clock⟩
 | .makeFunc (.func f) ⟨[]⟩ b8 => (b8.toList.map fun x => pz σ.rows (aQ σ.f x)).all eV = true ∧ dM σ.rows (b8.toList.flatMap fun x => dC (aQ σ.f x)) ∧
   K ⟨put σ.f o.dst (.fn f (b8.toList.map fun x => pz σ.rows (aQ σ.f x))), B3 σ.rows (b8.toList.flatMap fun x => dC (aQ σ.f x)), σ.clock⟩
 | _ => ∃ v u, ys E o.op (aQ σ.f) σ.rows v u ∧ K ⟨put σ.f o.dst v, eX σ.rows u, σ.clock⟩
def mF (E : Env) (ver : Nat) (o : Oper) (K : Nat → (Nat → PV) → Rows → Prop) (f : Nat → PV) (rows : Rows) : Prop :=
 match o.op with
 | .alloc t => (E.ty t).known = true ∧ B5 K ver f rows o.dst (.ptr (o.dst.getD 0) ver 0 0) (o.dst.getD 0) t (E.ty t).size [(E.ty t).zero]
 | .box t x => (E.ty t).known = true ∧ ∃ l, bP (aQ f x) = some l ∧ (∀ q ∈ l, gN rows q) ∧ l.length = (E.ty t).size ∧ B5 K ver f rows o.dst (.ptr (o.dst.getD 0) ver 0 0) (o.dst.getD 0) t (E.ty t).size [l]
 | .makeSlice t l c =>
  match E.ty t, aQ f l, aQ f c with
  | .slice e n b z, .int _ x, .int _ y => 0 ≤ x ∧ x ≤ y ∧ y.toNat ≤ room ∧ y.toNat * b ≤ room ∧ B5 K ver f rows o.dst (.own (o.dst.getD 0) ver 0 x.toNat) (o.dst.getD 0) e n (List.replicate x.toNat z)
  | _, _, _ => False
 | .call { callee := .builtin .append, args := ⟨[x, y]⟩, argTypes := ⟨[t, t2]⟩ } => (t2 = t ∨ VD (E.ty t2) = true) ∧ mN E ver o t (aQ f x) (aQ f y) K f rows
 | _ => False
theorem sO {n : Nat} (h : n ≤ room) : n ≤ maxLen := by unfold room at h; simp only [maxLen]; omega
theorem jC {α : Type} {z : List α} : ∀ {x k : Nat} {a : α}, (List.replicate x z).flatten[k]? = some a → z[k % z.length]? = some a
 | 0, k, a, h => by simp at h
 | x + 1, k, a, h => by
  rw [List.replicate_succ, List.flatten_cons] at h
  rcases Nat.lt_or_ge k z.length with hk | hk
  ·rw [List.getElem?_append_left hk] at h
   rw [Nat.mod_eq_of_lt hk]; exact h
  ·rw [List.getElem?_append_right hk] at h
   have := jC h
   rw [← Nat.mod_eq_sub_mod hk] at this; exact this
section
variable {E : Env} {c : Cx} {w0 : World} {S0 : dB}
theorem rK (hI : Inv w0 S0 c) {y : PV} {vy : Value} {l : List (List PV)} {n : Nat} (hy : aI c y vy) (h : sN c.rows y l) (hn : ∀ e ∈ l, e.length = n) :
  ∃ A cap news, vy = .slice A l.length cap ∧ news.length = l.length * n ∧ a7 (aP c) l.flatten news ∧ (∀ u ∈ news, u.oneCell' = true) ∧ (A = none → l = []) ∧
   ∀ a, A = some a → ∀ j u, news[j]? = some u → c.w.cell? (a.add j) = some u := by
 have fl : ∀ {l : List (List PV)}, (∀ e ∈ l, e.length = n) → l.flatten.length = l.length * n := by
  intro l
  induction l with
  | nil => intro _; simp
  | cons e l ih => intro h; rw [List.flatten_cons, List.length_append, ih (fun e he => h e (by simp [he])), h e (by simp), List.length_cons, Nat.add_mul]; omega
 have at_ : ∀ (g o cap : Nat), vy = .slice (some ⟨g, o, none⟩) l.length cap →
   (∀ k e, l[k]? = some e → ∀ j p, e[j]? = some p → ∃ v, c.w.cell? ⟨g, o + (k * n + j), none⟩ = some v ∧ v.oneCell' = true ∧ aP c p v) → ∃ A cap news, vy = .slice A l.length cap ∧ news.length = l.length * n ∧ a7 (aP c) l.flatten news ∧ (∀ u ∈ news, u.oneCell' = true) ∧ (A = none → l = []) ∧
   ∀ a, A = some a → ∀ j u, news[j]? = some u → c.w.cell? (a.add j) = some u := by
  intro g o cap hv hc
  have cellAt : ∀ k, k < l.length * n → ∃ p v, l.flatten[k]? = some p ∧ c.w.cell? ⟨g, o + k, none⟩ = some v ∧ v.oneCell' = true ∧ aP c p v := by
   intro k hk
   have hn0 : 0 < n := by
    rcases Nat.eq_zero_or_pos n with h | h
    ·subst h; simp at hk
    ·exact h
   have hq : k / n < l.length := (Nat.div_lt_iff_lt_mul hn0).2 hk
   have he := hn l[k / n] (List.getElem_mem hq)
   have hj : k % n < l[k / n].length := by rw [he]; exact Nat.mod_lt _ hn0
   have OH : k / n * n + k % n = k := by rw [Nat.mul_comm]; exact Nat.div_add_mod k n
   obtain ⟨v, h1, h2, h3⟩ := hc (k / n) _ (List.getElem?_eq_getElem hq) (k % n) _ (List.getElem?_eq_getElem hj)
   rw [OH] at h1
   have := iG hn (List.getElem?_eq_getElem hq) (List.getElem?_eq_getElem hj)
   rw [OH] at this
   exact ⟨_, v, this, h1, h2, h3⟩
  have hnl : ((List.range (l.length * n)).map fun k => (c.w.cell? ⟨g, o + k, none⟩).getD undef).length = l.length * n := by simp
  have U3 : ∀ k u, ((List.range (l.length * n)).map fun k => (c.w.cell? ⟨g, o + k, none⟩).getD undef)[k]? = some u → k < l.length * n ∧ ∃ p, l.flatten[k]? = some p ∧ c.w.cell? ⟨g, o + k, none⟩ = some u ∧ u.oneCell' = true ∧ aP c p u := by
   intro k u hu
   have hk : k < l.length * n := by rw [← hnl]; exact (List.getElem?_eq_some_iff.1 hu).1
   obtain ⟨p, v, h1, h2, h3, h4⟩ := cellAt k hk
   rw [List.getElem?_map, List.getElem?_range hk] at hu
   simp only [Option.map_some, h2, Option.getD_some, Option.some.injEq] at hu
   subst hu
   exact ⟨hk, p, h1, h2, h3, h4⟩
  refine ⟨some ⟨g, o, none⟩, cap, _, hv, hnl, a7.cY (by rw [hnl, fl hn]) fun k p u hp hu => ?_, fun u hu => ?_, by simp, fun a ha j u hu => ?_⟩
  ·obtain ⟨_, p', h1, _, _, h4⟩ := U3 k u hu
   rw [hp] at h1; cases h1; exact h4
  ·obtain ⟨k, hk⟩ := List.getElem?_of_mem hu
   exact (U3 k u hk).2.choose_spec.2.2.1
  ·cases ha
   rw [gM]
   exact (U3 j u hu).2.choose_spec.2.1
 have empty : ∀ A cap, vy = .slice A l.length cap → l = [] → ∃ A cap news, vy = .slice A l.length cap ∧ news.length = l.length * n ∧ a7 (aP c) l.flatten news ∧ (∀ u ∈ news, u.oneCell' = true) ∧ (A = none → l = []) ∧
   ∀ a, A = some a → ∀ j u, news[j]? = some u → c.w.cell? (a.add j) = some u := by
  rintro A cap hv rfl
  exact ⟨A, cap, [], hv, by simp, trivial, by simp, by simp, by simp⟩
 unfold sN at h
 split at h
 ·subst h
  simp only [aI, aP, cL] at hy
  exact empty none 0 (by rw [hy]; rfl) rfl
 ·subst h
  simp only [aI, aP, cL] at hy
  obtain ⟨A, cap, rfl, _, _, hh⟩ := hy
  rcases hh with hh | ⟨g, o, rfl, hr⟩
  ·exact empty A cap rfl hh
  ·refine at_ g o cap rfl fun k e hk j p hj => ?_
   obtain ⟨v, h1, _, h3, h4⟩ := fY (gY hr hn hk) hj
   exact ⟨v, by rw [← Nat.add_assoc]; exact h1, h3, aP.iT h4⟩
 ·subst h
  simp only [aI, aP, cL] at hy
  obtain ⟨A, rfl, _, hh⟩ := hy
  rcases hh with hh | ⟨g, o, rfl, hr⟩
  ·exact empty A _ rfl hh
  ·refine at_ g o _ rfl fun k e hk j p hj => ?_
   obtain ⟨v, h1, _, h3, h4⟩ := fY (gY hr hn hk) hj
   exact ⟨v, by rw [← Nat.add_assoc]; exact h1, h3, aP.iT h4⟩
 ·rename_i id ver off len
  obtain ⟨r, hr, jA, rfl⟩ := h
  simp only [aI, aP] at hy
  obtain ⟨hle, hy⟩ := hy.2 r hr jA
  have UQ : ((r.els.drop off).take len).length = len := by simp; omega
  rw [← UQ] at hy
  have mD : ∀ k e, ((r.els.drop off).take len)[k]? = some e → r.els[off + k]? = some e ∧ r.size = n := by
   intro k e hk
   have vJ := hk
   rw [List.getElem?_take] at hk
   split at hk
   ·rw [List.getElem?_drop] at hk
    refine ⟨hk, ?_⟩
    rw [← hn e (List.mem_of_getElem? vJ)]
    exact ((hI.row id r hr).len e (List.mem_of_getElem? hk)).symm
   ·cases hk
  rcases hy with ⟨h0, A, m, cap, hβ, rfl⟩ | ⟨j6, g, m, cap, A, hβ, hoc, rfl, ha⟩
  ·subst h0
   rcases Nat.eq_zero_or_pos len with h0 | h0
   ·exact empty A cap rfl (List.eq_nil_of_length_eq_zero (by rw [UQ]; exact h0))
   ·obtain ⟨g, jI, oN⟩ := oM hI hr (by omega)
    rw [hβ] at oN
    simp only [Value.slice.injEq] at oN
    obtain ⟨rfl, rfl, rfl⟩ := oN
    refine at_ g 0 _ rfl fun k e hk j p hj => ?_
    obtain ⟨hk2, hs⟩ := mD k e hk
    have := sL hI hr hβ hk2 hj
    rw [hs] at this
    simpa using this
  ·rcases ha with ha | rfl
   ·exact empty _ _ rfl (List.eq_nil_of_length_eq_zero ha)
   ·refine at_ g _ _ rfl fun k e hk j p hj => ?_
    obtain ⟨hk2, hs⟩ := mD k e hk
    have := sL hI hr hβ hk2 hj
    rw [hs] at this ⊢
    rw [show off * n + (k * n + j) = (off + k) * n + j by rw [Nat.add_mul]; omega]; exact this
 ·exact h.elim
end
section
variable {E : Env} {c : Cx} {w0 : World} {S0 : dB}
theorem uQ (hI : Inv w0 S0 c) {ver : Nat} (OI : ¬ c.used ver) (id : Nat) (e : TypeId) (size n cap : Nat) (els : List (List PV)) (cells : Array Value) (hn : els.length = n) (N9 : n ≤ cap) (hcm : cap ≤ maxLen) (mD : cells.size = cap * size)
  (eW : a7 (aP c) els.flatten (cells.toList.take (n * size))) (gO : ∀ u ∈ cells.toList, u.oneCell' = true) (hlen : ∀ e ∈ els, e.length = size) (j6 : 0 < size) :
  Inv w0 S0 { c with w := c.w.alloc (.cells cells e), β := dE c.β id (.slice (some ⟨c.w.heap.size, 0, none⟩) n cap), rows := dE c.rows id (some ⟨ver, e, size, els⟩), used := fun v => v = ver ∨ c.used v } ∧
  rF c { c with w := c.w.alloc (.cells cells e), β := dE c.β id (.slice (some ⟨c.w.heap.size, 0, none⟩) n cap), rows := dE c.rows id (some ⟨ver, e, size, els⟩), used := fun v => v = ver ∨ c.used v } := by
 refine hI.set (ob := none) (r' := ⟨ver, e, size, els⟩) (xs := cells.toList.take (n * size)) (World.grownBy_alloc c.w _ none) (by simp) ?_ eW (fun x hx => gO x (List.mem_of_mem_take hx)) hlen j6 ?_ OI
 ·have hle : n * size ≤ cap * size := Nat.mul_le_mul_right _ N9
  refine ⟨by simp [hn]; omega, .inr ⟨c.w.heap.size, cap, cells, by simp [hn], hI.below.size, heap_alloc_new c.w _, by simp [hn]; exact N9, hcm, mD, by simp [hn]⟩⟩
 ·intro g hg
  simp [Value.ownBlock] at hg
  exact .inr (by omega)
theorem VE {t : TypeId} {n : Nat} {z : List PV} (h : j7 E.P t n z) : ∃ i v, E.P.info? t = some i ∧ i.zero = some v ∧ i.size = n ∧ a7 (aP c) z v.cells.toList ∧ v.cells.size = n ∧ ∀ u ∈ v.cells.toList, u.oneCell' = true := by
 obtain ⟨i, v, h1, h2, h3, h4, h5⟩ := h.ok
 have hl : v.cells.size = n := by rw [← h.len, ← h4]; simp
 refine ⟨i, v, h1, h2, h3, ?_, hl, fun u hu => (Array.all_eq_true_iff_forall_mem.1 h5) u (by simpa using hu)⟩
 rw [← h4]
 refine a7.cY (by simp) fun k a b ha hb => ?_
 simp at ha
 obtain ⟨u, hu, rfl⟩ := ha
 have : v.cells.toList[k]? = some u := by simpa using hu
 rw [this] at hb; cases hb
 exact jH _
theorem jY {c' : Cx} {id ver n : Nat} {r : Row} (hr : c'.rows id = some r) (hn : r.els.length = n) (hc : c'.used ver) {A : Option Addr} {cap : Nat} (hβ : c'.β id = .slice A n cap) : aI c' (.own id ver 0 n) (.slice A n cap) := by
 simp only [aI, aP]
 refine ⟨hc, fun r' jG _ => ?_⟩
 rw [hr] at jG; cases jG
 exact ⟨by omega, .inl ⟨by first | rfl | trivial, A, n, cap, hβ, rfl⟩⟩
theorem VF {c' : Cx} {id ver : Nat} (hc : c'.used ver) {g n cap : Nat} (hβ : c'.β id = .slice (some ⟨g, 0, none⟩) n cap) : aI c' (.ptr id ver 0 0) (.pointer (some ⟨g, 0, none⟩)) := by
 simp only [aI, aP]
 exact ⟨hc, fun r' _ _ => ⟨g, n, cap, hβ, by simp⟩⟩
theorem qX {z : Array Value} {N k : Nat} (hk : k < N) (hz : 0 < z.size) : (madeCells z N).toList[k]? = z.toList[k % z.size]? := by
 have hm : k % z.size < z.size := Nat.mod_lt _ hz
 simp [madeCells, hk, hm]
variable {n : Nat} {G : Gs}
theorem oQ {U : Nat → Prop} {ver : Nat} {f : Nat → PV} {rows : Rows} {a : Act} (hr : c.rows = rows) (eT : ∀ v, c.used v → U v) (hf : ∀ s, aI c (f s) (a.tmps.getD s undef)) (hG : ∀ p ∈ G, aI c p.1 p.2) (hn : a.tmps.size = n) (eK : a.defers = [])
  {K : (Nat → PV) → Rows → Prop} {d : Option Tmp} {v : PV} {id : Nat} {e : TypeId} {sz : Nat} {els : List (List PV)} (h : K (put f d v) (dE rows id (some ⟨ver, e, sz, els⟩))) {v' : Value} {w' : World} {b' : Value}
  (hI : Inv w0 S0 { c with w := w', β := dE c.β id b', rows := dE c.rows id (some ⟨ver, e, sz, els⟩), used := fun v => v = ver ∨ c.used v })
  (hA : rF c { c with w := w', β := dE c.β id b', rows := dE c.rows id (some ⟨ver, e, sz, els⟩), used := fun v => v = ver ∨ c.used v })
  (hv : aI { c with w := w', β := dE c.β id b', rows := dE c.rows id (some ⟨ver, e, sz, els⟩), used := fun v => v = ver ∨ c.used v } v v') (hd : ∀ t, d = some t → t < n) :
  ∃ f' rows', K f' rows' ∧ m9 w0 S0 n G (fun v => v = ver ∨ U v) f' rows' (a.put d v') w' := by
 refine ⟨_, _, h, ?_⟩
 have := mM (U := fun v => v = ver ∨ U v) (f' := put f d v) (rows := dE rows id (some ⟨ver, e, sz, els⟩)) hf hG hn eK hA hI hv hd rfl (by simp [hr]) (fun v hv => hv.imp (fun h => h) (eT v))
 exact this
theorem K8 (hI : Inv w0 S0 c) {w' : World} (hg : c.w.grownBy w' none) {e : TypeId} {sz : Nat} {v' : Value} {els : List (List PV)} {xs : List Value} (gG : w'.ownsRow c.w.heap.size e sz v' els.length xs)
  (eW : a7 (cL c.S c.w) els.flatten xs) (gO : ∀ u ∈ xs, u.oneCell' = true) (hlen : ∀ e ∈ els, e.length = sz) :
  ∃ c', c'.w = w' ∧ c'.rows = c.rows ∧ c'.used = c.used ∧ Inv w0 S0 c' ∧ rF c c' ∧ aI c' (.sl els) v' := by
 have hb : Below c.w.heap.size c.w w' := ⟨hg.os, hg.tape, hg.output, hg.size, fun k hk => hg.block k hk (by simp)⟩
 obtain ⟨uG, hA⟩ := hI.grow (S' := fun b o => c.S b o ∨ (c.w.heap.size ≤ b ∧ b < w'.heap.size)) hb (fun _ _ h => .inl h) (fun _ _ h => h)
 refine ⟨{ c with S := fun b o => c.S b o ∨ (c.w.heap.size ≤ b ∧ b < w'.heap.size), w := w' }, rfl, rfl, rfl, uG, hA, ?_⟩
 simp only [aI, aP, cL]
 rcases gG.2 with ⟨rfl, h0⟩ | ⟨g, cap, cur, rfl, hge, hh, N9, hcm, F9, GQ⟩
 ·exact ⟨none, 0, by rw [h0], by omega, by simp [maxLen], .inl (List.eq_nil_of_length_eq_zero h0)⟩
 ·refine ⟨_, cap, rfl, N9, hcm, .inr ⟨g, 0, rfl, mL hlen fun k el hk => iF fun j p hj => ?_⟩⟩
  have hf := iG hlen hk hj
  obtain ⟨u, hu, hr⟩ := eW.get hf
  have gL : g < w'.heap.size := (Array.getElem?_eq_some_iff.1 hh).1
  have B2 := gG.cells (g := g) rfl (k * sz + j) u hu
  rw [gM] at B2
  refine ⟨u, ?_, .inr ⟨hge, gL⟩, gO u (List.mem_of_getElem? hu), cL.mono hA.S hA.w _ _ hr⟩
  rw [show 0 + k * sz + j = 0 + (k * sz + j) by omega]; exact B2
theorem RH {P : Program} {w : World} {t t2 ty : TypeId} {e e2 : TypeId} {x y : Value} (hu : P.underlying t = some (.slice e)) (hu2 : P.underlying t2 = some (.slice e2)) :
  (Builtin.append_ #[t, t2] ty #[x, y]).run P w = (Builtin.append_ #[t, t] ty #[x, y]).run P w := by
 unfold Builtin.append_
 simp only [List.getElem?_toArray, List.getElem?_cons_zero, List.getElem?_cons_succ, Sem.run_bind, run_underlying hu, Result.andThen_ok]
 cases x <;> simp [run_underlying hu, run_underlying hu2]
theorem abA {E : Env} {t2 : TypeId} (h : VD (E.ty t2) = true) : ∃ e, E.P.underlying t2 = some (.slice e) := by
 cases hE : E.ty t2 with
 | slice e n b z => exact ⟨e, (eJ hE).1⟩
 | _ => rw [hE] at h; cases h
theorem yG {U : Nat → Prop} {ver : Nat} (OI : ¬ U ver) {o : Oper} {a : Act} {f : Nat → PV} {rows : Rows} {x y : Operand} {t t2 : TypeId} (hop : o.op = .call { callee := .builtin .append, args := ⟨[x, y]⟩, argTypes := ⟨[t, t2]⟩ }) (ht2 : t2 = t ∨ VD (E.ty t2) = true)
  (hI : Inv w0 S0 c) (hr : c.rows = rows) (eT : ∀ v, c.used v → U v) (hf : ∀ s, aI c (f s) (a.tmps.getD s undef)) (hG : ∀ p ∈ G, aI c p.1 p.2) (hn : a.tmps.size = n) (eK : a.defers = [])
  (hd : ∀ t, o.dst = some t → t < n) {K : Nat → (Nat → PV) → Rows → Prop} (h : mN E ver o t (aQ f x) (aQ f y) K f rows) {K' : Act → World → Prop} {Q : Exit → Act → World → Prop} (hK : ∀ i f' rows' a' w', K i f' rows' → m9 w0 S0 n G (fun v => (i = 1 ∧ v = ver) ∨ U v) f' rows' a' w' → K' a' w') : o.wp E.P a c.w K' Q := by
 have hρ := kD hf
 have run : ∀ {v' : Value} {w' : World}, (Builtin.append_ #[t, t] o.type #[a.eval x, a.eval y]).run E.P c.w = .ok v' w' → K' (a.put o.dst v') w' → o.wp E.P a c.w K' Q := by
  intro v' w' h1 h2
  unfold Oper.wp
  have h1' : (Builtin.append_ #[t, t2] o.type #[a.eval x, a.eval y]).run E.P c.w = .ok v' w' := by
   rcases ht2 with rfl | ht2
   ·exact h1
   ·obtain ⟨e2, hu2⟩ := abA ht2
    have hsl : ∃ e, E.P.underlying t = some (.slice e) := by
     unfold mN at h
     split at h
     ·rename_i e n b z hE; exact ⟨e, (eJ hE).1⟩
     ·exact h.elim
    obtain ⟨e, hu⟩ := hsl
    rw [RH hu hu2]; exact h1
  have : (execOp a.eval o).run E.P c.w = .ok (.value v') w' := by
   simp only [execOp, hop, resolve, invoke, builtin, Sem.run_bind, Sem.run_pure, Result.andThen_ok, List.map_toArray, List.map_cons, List.map_nil, h1']
  rw [this]
  exact h2
 unfold mN at h
 split at h
 ·rename_i e sz b z hE
  obtain ⟨l, hl, hlen, h⟩ := h
  obtain ⟨hu, j6, DV, i, zv, hi, hz, hs, hby, K2, _⟩ := eJ hE
  have AY : zv.cells.size = sz := by rw [← DV, ← K2]; simp
  rw [← hr] at hl
  obtain ⟨A, cap, news, hvy, g1, g2, g3, g4, g5⟩ := rK hI (hρ y) hl hlen
  have main : ∀ (vx : Value) (k : Nat) (xs : List Value), c.w.ownsRow w0.heap.size e sz vx k xs → a.eval x = vx → k + l.length ≤ room → (k + l.length) * b ≤ room →
    ∃ v' w', (Builtin.append_ #[t, t] o.type #[a.eval x, a.eval y]).run E.P c.w = .ok v' w' ∧ w'.ownsRow w0.heap.size e sz v' (k + l.length) (xs ++ news) ∧ c.w.grownBy w' vx.ownBlock ∧ (v'.ownBlock = vx.ownBlock ∨ v'.ownBlock = some c.w.heap.size) := by
   intro vx k xs gG hvx GU xE
   rw [hvx, hvy]
   cases A with
   | some ad =>
    obtain ⟨v', w', q1, q2, q3, _, q5⟩ := run_append_own_at (P := E.P) c.w w0.heap.size t o.type e i zv sz b hu hi hz hs hby AY j6 vx k xs gG ad l.length cap news g1 (g5 ad rfl) g3 (sO GU) (by simpa [room] using xE) hI.below.size
    exact ⟨v', w', q1, q2, q3, q5⟩
   | none =>
    have wX := g4 rfl
    subst wX
    have hn0 : news = [] := List.eq_nil_of_length_eq_zero (by simpa using g1)
    subst hn0
    refine ⟨vx, c.w, ?_, by simpa using gG, ⟨rfl, rfl, rfl, Nat.le_refl _, fun _ _ _ => rfl⟩, .inl rfl⟩
    rcases gG.2 with ⟨rfl, rfl⟩ | ⟨g, jI, cur, rfl, _, _, N9, _⟩
    ·simp [Builtin.append_, run_underlying hu, Go.sizeOf, typeInfo, hi, Builtin.lenOf, Builtin.firstCells]
    ·simp [Builtin.append_, run_underlying hu, Go.sizeOf, typeInfo, hi, Builtin.lenOf, Builtin.firstCells, N9, storeCells]
  split at h
  ·-- alE nil
   rename_i heq
   obtain ⟨GU, xE, h⟩ := h
   have hx := hρ x
   rw [heq] at hx
   simp only [aI, aP, cL] at hx
   obtain ⟨v', w', q1, q2, q3, q4⟩ := main (.slice none 0 0) 0 [] (World.ownsRow_nil _ _ _ _) hx (by simpa using GU) (by simpa using xE)
   simp only [Nat.zero_add, List.nil_append] at q2
   obtain ⟨uG, hA⟩ := hI.set (ob := none) (id := o.dst.getD 0) (r' := ⟨ver, e, sz, l⟩) (xs := news) q3 (by simp) q2 g2 g3 hlen j6 (by
    intro g hg
    rcases q4 with q4 | q4
    ·rw [q4] at hg; simp [Value.ownBlock] at hg
    ·rw [q4] at hg; cases hg; exact .inr (Nat.le_refl _)) (fun hu => OI (eT _ hu))
   have hv : aI { c with w := w', β := dE c.β (o.dst.getD 0) v', rows := dE c.rows (o.dst.getD 0) (some ⟨ver, e, sz, l⟩), used := fun v => v = ver ∨ c.used v } (.own (o.dst.getD 0) ver 0 l.length) v' := by
    have VG : ∃ A' jI, v' = .slice A' l.length jI := by
     rcases q2.2 with ⟨rfl, h0⟩ | ⟨g, jI, cur, rfl, _⟩
     ·exact ⟨none, 0, by rw [h0]⟩
     ·exact ⟨_, jI, rfl⟩
    obtain ⟨A', jI, rfl⟩ := VG
    exact jY (r := ⟨ver, e, sz, l⟩) (by simp [dE]) rfl (Or.inl rfl) (by simp [dE])
   obtain ⟨f', rows', hk, yH⟩ := oQ (K := K 1) hr eT hf hG hn eK h uG hA hv hd
   exact run q1 (hK 1 f' rows' _ _ hk (yH.mono fun v hv => hv.imp (fun h => ⟨rfl, h⟩) fun h => h))
  ·-- alE a row of its own
   rename_i id alB off len heq
   obtain ⟨r, hrr, jA, rfl, rfl, he, mD, GU, xE, h⟩ := h
   rw [← hr] at hrr
   have hx := hρ x
   rw [heq] at hx
   simp only [aI, aP] at hx
   obtain ⟨⟨xs, gG, eW, gO⟩, yI, hnS, _⟩ := hI.row id r hrr
   have hxv : a.eval x = c.β id := by
    rcases (hx.2 r hrr jA).2 with ⟨_, A', m, jI, hβ, hv⟩ | ⟨h0, _⟩
    ·have hm : m = r.els.length := by
      rw [hβ] at gG
      rcases gG.2 with ⟨h', h0⟩ | ⟨g, alF, cur, h', _⟩
      ·simp at h'; omega
      ·simp at h'; exact h'.2.1
     rw [hv, hβ, hm]
    ·omega
   rw [he, mD] at gG
   obtain ⟨v', w', q1, q2, q3, q4⟩ := main (c.β id) r.els.length xs gG hxv GU xE
   obtain ⟨uG, hA⟩ := hI.set (ob := (c.β id).ownBlock) (id := id) (r' := ⟨ver, e, sz, r.els ++ l⟩) (xs := xs ++ news) q3 (by
    intro g hg
    refine ⟨(gG.lt g hg).1, fun o => hnS g o hg, fun iQ r' jG sH hb => sH (hI.apart iQ id r' r g jG hrr hb hg)⟩) (by simpa using q2) (by
     show a7 (aP c) (r.els ++ l).flatten _
     rw [List.flatten_append]; exact eW.append g2) (by
     intro u hu
     rcases List.mem_append.1 hu with hu | hu
     ·exact gO u hu
     ·exact g3 u hu) (by
     intro e' sJ
     rcases List.mem_append.1 sJ with sJ | sJ
     ·rw [yI e' sJ, mD]
     ·exact hlen e' sJ) j6 (by
     intro g hg
     rcases q4 with q4 | q4
     ·exact .inl (by rw [← q4]; exact hg)
     ·rw [q4] at hg; cases hg; exact .inr (Nat.le_refl _)) (fun hu => OI (eT _ hu))
   have hv : aI { c with w := w', β := dE c.β id v', rows := dE c.rows id (some ⟨ver, e, sz, r.els ++ l⟩), used := fun v => v = ver ∨ c.used v } (.own id ver 0 (r.els.length + l.length)) v' := by
    have VG : ∃ A' jI, v' = .slice A' (r.els.length + l.length) jI := by
     rcases q2.2 with ⟨rfl, h0⟩ | ⟨g, jI, cur, rfl, _⟩
     ·exact ⟨none, 0, by rw [h0]⟩
     ·exact ⟨_, jI, rfl⟩
    obtain ⟨A', jI, rfl⟩ := VG
    exact jY (r := ⟨ver, e, sz, r.els ++ l⟩) (by simp [dE]) (by simp) (Or.inl rfl) (by simp [dE])
   obtain ⟨f', rows', hk, yH⟩ := oQ (K := K 1) hr eT hf hG hn eK h uG hA hv hd
   exact run q1 (hK 1 f' rows' _ _ hk (yH.mono fun v hv => hv.imp (fun h => ⟨rfl, h⟩) fun h => h))
  ·-- alE cells that stay, its capacity its length
   rename_i l0 heq
   obtain ⟨yI, OB, GU, xE, h⟩ := h
   have hx := hρ x
   rw [heq] at hx
   simp only [aI, aP, cL] at hx
   obtain ⟨A0, hA0, KF, VH⟩ := hx
   have fin : ∀ {v' : Value} {w' : World}, (Builtin.append_ #[t, t] o.type #[a.eval x, a.eval y]).run E.P c.w = .ok v' w' →
     (∃ c', c'.w = w' ∧ c'.rows = c.rows ∧ c'.used = c.used ∧ Inv w0 S0 c' ∧ rF c c' ∧ aI c' (.sl (l0 ++ l)) v') → o.wp E.P a c.w K' Q := by
    rintro v' w' iU ⟨c', rfl, h2, h3, h4, h5, h6⟩
    refine run iU (hK 0 _ _ _ _ h ?_)
    exact mM hf hG hn eK h5 h4 h6 hd rfl (by rw [h2, hr]) (by rw [h3]; exact fun v hv => .inr (eT v hv))
   have abB : a7 (cL c.S c.w) l.flatten news := by
    refine a7.cY g2.length fun k p u hp hu => ?_
    obtain ⟨u', q1, q2⟩ := g2.get hp
    rw [hu] at q1; cases q1
    have rL := List.mem_of_getElem? hp
    rw [List.mem_flatten] at rL
    obtain ⟨e', sJ, uF⟩ := rL
    exact q2.rep (OB e' sJ p uF)
   by_cases wX : l = []
   ·subst wX
    refine fin (v' := .slice A0 l0.length l0.length) (w' := c.w) ?_ ⟨c, rfl, rfl, rfl, hI, rF.refl c, ?_⟩
    ·have hn0 : news = [] := List.eq_nil_of_length_eq_zero (by simpa using g1)
     subst hn0
     have hfc : (Builtin.firstCells i.size 0 (.slice A 0 cap)).run E.P c.w = .ok #[] c.w := by
      cases A with
      | none => simp [Builtin.firstCells]
      | some ad => simp [Builtin.firstCells, loadCells, loadCellsFrom]
     rw [hA0, hvy]
     cases A0 with
     | none => simp [Builtin.append_, run_underlying hu, Go.sizeOf, typeInfo, hi, Builtin.lenOf, hfc]
     | some ad0 => simp [Builtin.append_, run_underlying hu, Go.sizeOf, typeInfo, hi, Builtin.lenOf, hfc, storeCells]
    ·simp only [aI, aP, cL, List.append_nil]
     exact ⟨A0, _, rfl, Nat.le_refl _, KF, VH⟩
   ·have alG : 0 < l.length := List.length_pos_iff.2 wX
    obtain ⟨ad, rfl⟩ : ∃ ad, A = some ad := by
     cases A with
     | none => exact absurd (g4 rfl) wX
     | some ad => exact ⟨ad, rfl⟩
    obtain ⟨A2, alH, abC, hvx, o1, o2, o3, o4, o5⟩ := rK (y := .iS l0) (vy := a.eval x) (l := l0) hI (by simp only [aI, aP, cL]; exact ⟨A0, hA0, KF, VH⟩) rfl yI
    rw [hA0] at hvx
    simp only [Value.slice.injEq] at hvx
    obtain ⟨rfl, _, rfl⟩ := hvx
    have abD : a7 (cL c.S c.w) l0.flatten abC := by
     refine a7.cY o2.length fun k p u hp hu => ?_
     have rL := List.mem_of_getElem? hp
     rcases VH with rfl | ⟨g, oo, rfl, hre⟩
     ·simp at hp
     ·have ari : l0.flatten.length = l0.length * sz := by rw [o2.length, o1]
      have hk : k < l0.length * sz := by rw [← ari]; exact (List.getElem?_eq_some_iff.1 hp).1
      have hq : k / sz < l0.length := (Nat.div_lt_iff_lt_mul j6).2 hk
      have m6 := yI l0[k / sz] (List.getElem_mem hq)
      have hj : k % sz < l0[k / sz].length := by rw [m6]; exact Nat.mod_lt _ j6
      have OH : k / sz * sz + k % sz = k := by rw [Nat.mul_comm]; exact Nat.div_add_mod k sz
      have hfg := iG yI (List.getElem?_eq_getElem hq) (List.getElem?_eq_getElem hj)
      rw [OH, hp] at hfg
      cases hfg
      obtain ⟨u', r1, _, _, r4⟩ := fY (gY hre yI (List.getElem?_eq_getElem hq)) (List.getElem?_eq_getElem hj)
      have := o5 _ rfl k u hu
      rw [gM] at this
      rw [show oo + k / sz * sz + k % sz = oo + k by omega, this] at r1
      cases r1; exact r4
    have grow : ∃ v' w', (Builtin.append_ #[t, t] o.type #[a.eval x, a.eval y]).run E.P c.w = .ok v' w' ∧ w'.ownsRow c.w.heap.size e sz v' (l0.length + l.length) (abC ++ news) ∧ c.w.grownBy w' none := by
     rw [hA0, hvy]
     cases A0 with
     | some ad0 => exact run_append_arg_grows (P := E.P) c.w t o.type e i zv sz b hu hi hz hs hby AY j6 ad0 l0.length l0.length abC o1 (o5 ad0 rfl) ad l.length cap news g1 (g5 ad rfl) (by omega) (sO GU) (by simpa [room] using xE)
     | none =>
      have arj := o4 rfl
      subst arj
      have ho0 : abC = [] := List.eq_nil_of_length_eq_zero (by simpa using o1)
      subst ho0
      obtain ⟨v', w', q1, q2, q3, _, q5⟩ := run_append_own_at (P := E.P) c.w c.w.heap.size t o.type e i zv sz b hu hi hz hs hby AY j6 (.slice none 0 0) 0 [] (World.ownsRow_nil _ _ _ _) ad l.length cap news g1 (g5 ad rfl) g3 (by simpa using sO GU) (by simpa [room] using xE) (Nat.le_refl _)
      exact ⟨v', w', q1, by simpa using q2, q3⟩
    obtain ⟨v', w', q1, q2, q3⟩ := grow
    refine fin q1 (K8 hI q3 (els := l0 ++ l) (by simpa using q2) (by rw [List.flatten_append]; exact abD.append abB) (fun u hu => ?_) (fun e' sJ => ?_))
    ·rcases List.mem_append.1 hu with hu | hu
     ·exact o3 u hu
     ·exact g3 u hu
    ·rcases List.mem_append.1 sJ with sJ | sJ
     ·exact yI e' sJ
     ·exact hlen e' sJ
  ·exact h.elim
 ·exact h.elim
end
section
variable {E : Env} {w0 : World} {S0 : dB} {n : Nat} {G : Gs}
theorem DY {P : Program} (w : World) (dT sT ty elem : TypeId) (g o abE alI : Nat) (A : Option Addr) (abF alJ : Nat) (cur : Array Value) (t : TypeId) (cs : List Value)
  (hu : P.underlying dT = some (.slice elem)) (hs : (P.info? elem).map (·.size) = some 1)
  (hg : w.heap[g]? = some (.cells cur t (0, 0))) (hn : cs.length = Nat.min abF abE)
  (ark : ∀ a, A = some a → ∀ j v, cs[j]? = some v → w.cell? (a.add j) = some v) (hA : A = none → cs = []) (agw : o + cs.length ≤ cur.size) (h1 : ∀ v ∈ cs, v.oneCell' = true) :
  (Builtin.copy_ #[dT, sT] ty #[.slice (some ⟨g, o, none⟩) abE alI, .slice A abF alJ]).run P w =
   .ok (goInt cs.length) (w.setRow g (cur.toList.take o ++ cs ++ cur.toList.drop (o + cs.length)).toArray) := by
 cases A with
 | some a => exact run_copy_row P w dT sT ty elem g o abE alI a abF alJ cur t cs hu hs hg hn (ark a rfl) agw h1
 | none =>
  have := hA rfl
  subst this
  cases hq : P.info? elem with
  | none => simp [hq] at hs
  | some i =>
   have xF : Nat.min abF abE = 0 := by simpa using hn.symm
   have alK := setRow_self w g cur t (0, 0) hg
   simp [Builtin.copy_, run_underlying hu, Builtin.lenOf, Builtin.firstCells, Go.sizeOf, typeInfo, hq, xF, storeCells, List.take_append_drop, alK]
theorem sP {U : Nat → Prop} {ver : Nat} (OI : ¬ U ver) {o : Oper} {a : Act} {w : World} {f : Nat → PV} {rows : Rows} {K : Nat → (Nat → PV) → Rows → Prop} (h : mF E ver o K f rows) (hR : m9 w0 S0 n G U f rows a w) (hd : ∀ t, o.dst = some t → t < n)
  {K' : Act → World → Prop} {Q : Exit → Act → World → Prop} (hK : ∀ i f' rows' a' w', K i f' rows' → m9 w0 S0 n G (fun v => (i = 1 ∧ v = ver) ∨ U v) f' rows' a' w' → K' a' w') : o.wp E.P a w K' Q := by
 obtain ⟨⟨c, rfl, hr, eT, hI, hf, hG⟩, hn, eK⟩ := hR
 have hρ := kD hf
 have hfu : ¬ c.used ver := fun hu => OI (eT _ hu)
 have value : ∀ {v' : Value} {w' : World}, (execOp a.eval o).run E.P c.w = .ok (.value v') w' → K' (a.put o.dst v') w' → o.wp E.P a c.w K' Q := by
  intro v' w' h1 h2
  unfold Oper.wp
  rw [h1]
  exact h2
 have newVar : ∀ (t : TypeId) (l : List PV) (vx : Value), (E.ty t).known = true → a7 (aP c) l vx.cells.toList → (∀ u ∈ vx.cells.toList, u.oneCell' = true) → l.length = (E.ty t).size →
   B5 K ver f rows o.dst (.ptr (o.dst.getD 0) ver 0 0) (o.dst.getD 0) t (E.ty t).size [l] → (execOp a.eval o).run E.P c.w = .ok (.value (.pointer (some ⟨c.w.heap.size, 0, none⟩))) (c.w.alloc (.cells vx.cells t)) → o.wp E.P a c.w K' Q := by
  intro t l vx hk eW gO hlen hp iU
  have hz := (E.ok t).zero hk
  have mD : vx.cells.size = (E.ty t).size := by rw [← hlen, eW.length]; simp
  obtain ⟨uG, hA⟩ := uQ hI hfu (o.dst.getD 0) t (E.ty t).size 1 1 [l] vx.cells rfl (Nat.le_refl _) (by simp [maxLen]) (by omega) (by
   simp only [List.flatten_cons, List.flatten_nil, List.append_nil]
   rw [List.take_of_length_le (by simp [mD])]; exact eW) gO (by simpa using hlen) hz.pos
  obtain ⟨f', rows', vJ, yH⟩ := oQ (K := K 1) hr eT hf hG hn eK hp uG hA (VF (Or.inl rfl) (g := c.w.heap.size) (n := 1) (cap := 1) (by simp [dE])) hd
  exact value iU (hK 1 f' rows' _ _ vJ (yH.mono fun v hv => hv.imp (fun h => ⟨rfl, h⟩) fun h => h))
 obtain ⟨dst, op, type, pos, after, guard⟩ := o
 simp only at hd value newVar
 unfold mF at h
 simp only at h
 split at h
 ·-- alloc
  rename_i t
  obtain ⟨hk, h⟩ := h
  have hz := (E.ok t).zero hk
  obtain ⟨i, zv, h1, h2, h3, h4, h5, h6⟩ := VE (c := c) hz
  exact newVar t (E.ty t).zero zv hk h4 h6 rfl h (by simp [execOp, Instr.alloc, zeroValue, typeInfo, h1, h2, Go.newVar, newRow])
 ·-- box
  rename_i t x
  obtain ⟨hk, l, hl, gO, hlen, h⟩ := h
  rw [← hr] at gO
  obtain ⟨g1, g2⟩ := kN (hρ x) hl gO
  exact newVar t l (a.eval x) hk g1 g2 hlen h (by simp [execOp, Instr.box, Go.newVar, newRow])
 ·-- makeSlice
  rename_i t l cc
  split at h
  ·rename_i e sz b z k1 x k2 y hE hl hc
   obtain ⟨h0, uH, GU, xE, h⟩ := h
   obtain ⟨hu, j6, DV, i, zv, hi, hz, hs, hby, K2, hzo⟩ := eJ hE
   have g1 := hρ l
   have g2 := hρ cc
   rw [hl, bY] at g1
   rw [hc, bY] at g2
   have AY : zv.cells.size = sz := by rw [← DV, ← K2]; simp
   have agz : (i.bytes : Int) * y ≤ 281474976710656 := by
    rw [hby]
    have h3 : ((y.toNat * b : Nat) : Int) ≤ room := by exact_mod_cast xE
    have h4 : ((y.toNat : Nat) : Int) = y := Int.toNat_of_nonneg (by omega)
    rw [Int.natCast_mul, h4] at h3
    simp only [room] at h3
    rw [Int.mul_comm]; omega
   have iU := run_make (P := E.P) c.w t e i zv hu hi hz k1 k2 x y h0 uH agz (by simp only [room] at GU; omega)
   have VI : (execOp a.eval { dst := dst, op := .makeSlice t l cc, type := type, pos := pos, after := after, guard := guard }).run E.P c.w = .ok (.value (.slice (some ⟨c.w.heap.size, 0, none⟩) x.toNat y.toNat)) (c.w.alloc (.cells (madeCells zv.cells (y.toNat * i.size)) e)) := by
    simp [execOp, g1, g2, iU]
   have alL : a7 (aP c) z zv.cells.toList := by
    rw [← K2]
    refine a7.cY (by simp) fun k p u hp hu => ?_
    simp at hp
    obtain ⟨q, hq, rfl⟩ := hp
    have : zv.cells.toList[k]? = some q := by simpa using hq
    rw [this] at hu; cases hu
    exact jH _
   have hle : x.toNat * sz ≤ y.toNat * sz := Nat.mul_le_mul_right _ (by omega)
   have hL : ((madeCells zv.cells (y.toNat * i.size)).toList.take (x.toNat * sz)).length = x.toNat * sz := by
    rw [List.length_take, Array.length_toList, size_madeCells, hs]; exact Nat.min_eq_left hle
   obtain ⟨uG, hA⟩ := uQ hI hfu (dst.getD 0) e sz x.toNat y.toNat (List.replicate x.toNat z) (madeCells zv.cells (y.toNat * i.size)) (by simp) (by omega) (sO GU) (by rw [size_madeCells, hs]) (by
    refine a7.cY (by rw [hL]; simp [DV]) fun k p u hp hu => ?_
    have hk := (List.getElem?_eq_some_iff.1 hu).1
    rw [hL] at hk
    rw [List.getElem?_take, if_pos (by omega), qX (by rw [hs]; omega) (by omega)] at hu
    have uF := jC hp
    rw [DV, ← AY] at uF
    obtain ⟨u', q1, q2⟩ := alL.get uF
    rw [hu] at q1; cases q1; exact q2) (by
    intro u hu
    obtain ⟨k, hk⟩ := List.getElem?_of_mem hu
    have vJ := (List.getElem?_eq_some_iff.1 hk).1
    simp [size_madeCells] at vJ
    rw [qX vJ (by omega)] at hk
    have := List.mem_of_getElem? hk
    exact (Array.all_eq_true_iff_forall_mem.1 hzo) u (by simpa using this)) (by
    intro e' sJ
    rw [List.mem_replicate] at sJ
    rw [sJ.2, DV]) j6
   obtain ⟨f', rows', vJ, yH⟩ := oQ (K := K 1) hr eT hf hG hn eK h uG hA (jY (r := ⟨ver, e, sz, List.replicate x.toNat z⟩) (A := some ⟨c.w.heap.size, 0, none⟩) (cap := y.toNat) (by simp [dE]) (by simp) (Or.inl rfl) (by simp [dE])) hd
   exact value VI (hK 1 f' rows' _ _ vJ (yH.mono fun v hv => hv.imp (fun h => ⟨rfl, h⟩) fun h => h))
  ·exact h.elim
 ·-- append
  rename_i x y t t2
  obtain ⟨ht2, h⟩ := h
  exact yG OI rfl ht2 hI hr eT hf hG hn eK hd h hK
 ·exact h.elim
theorem vQ {o : Oper} {a : Act} {w : World} {σ : PS} {K : PS → Prop} (h : dR E o K σ) (hR : Rel w0 S0 n G σ a w) (hd : ∀ t, o.dst = some t → t < n)
  {K' : Act → World → Prop} {Q : Exit → Act → World → Prop} (hK : ∀ σ' a' w', K σ' → Rel w0 S0 n G σ' a' w' → K' a' w') : o.wp E.P a w K' Q := by
 obtain ⟨⟨c, rfl, hr, eT, hI, hf, hG⟩, hn, eK⟩ := hR
 have hρ := kD hf
 have value : ∀ {v' : Value} {w' : World}, (execOp a.eval o).run E.P c.w = .ok (.value v') w' → K' (a.put o.dst v') w' → o.wp E.P a c.w K' Q := by
  intro v' w' h1 h2
  unfold Oper.wp
  rw [h1]
  exact h2
 have alM : (∃ v u, ys E o.op (aQ σ.f) σ.rows v u ∧ K ⟨put σ.f o.dst v, eX σ.rows u, σ.clock⟩) → o.wp E.P a c.w K' Q := by
  rintro ⟨v, u, hy, hk⟩
  rw [← hr] at hy
  refine GS hI hf hy fun v' c' h1 h2 h3 h4 h5 => hK _ _ _ hk ?_
  exact lK hf hG hn eK h3 h4 h5 hd rfl (by simp [h1, hr]) (by rw [h2]; exact eT)
 have nw : mF E σ.clock o (fun i f r => K ⟨f, r, σ.clock + i⟩) σ.f σ.rows → o.wp E.P a c.w K' Q := fun hp =>
  sP (U := fun v => v < σ.clock) (Nat.lt_irrefl _) hp ⟨⟨c, rfl, hr, eT, hI, hf, hG⟩, hn, eK⟩ hd fun i f' rows' a' w' hk yH => hK _ _ _ hk (yH.mono fun v hv => by
   show v < σ.clock + i
   rcases hv with ⟨rfl, rfl⟩ | hv
   ·omega
   ·have : v < σ.clock := hv
    omega)
 obtain ⟨dst, op, type, pos, after, guard⟩ := o
 simp only at hd value alM nw
 unfold dR at h
 simp only at h
 split at h
 ·-- alloc
  rename_i t
  exact nw (show mF E σ.clock _ _ σ.f σ.rows from h)
 ·-- box
  rename_i t x
  exact nw (show mF E σ.clock _ _ σ.f σ.rows from h)
 ·-- makeSlice
  rename_i t l cc
  refine nw (show mF E σ.clock _ _ σ.f σ.rows from ?_)
  unfold mF
  simp only
  split at h
  ·exact h
  ·exact h.elim
 ·-- append
  rename_i x y t t2
  obtain ⟨ht2, h⟩ := h
  refine nw (show mF E σ.clock _ _ σ.f σ.rows from ⟨ht2, ?_⟩)
  unfold DX at h
  unfold mN
  split at h
  ·obtain ⟨l, g1, g2, g3⟩ := h
   refine ⟨l, g1, g2, ?_⟩
   split at g3 <;> exact g3
  ·exact h
 ·-- copy
  rename_i x y t t2
  split at h
  ·rename_i e sz b z id ver off len hE hx
   obtain ⟨rfl, r, hrr, jA, mD, hle, alG, l, hl, hl1, h⟩ := h
   rw [← hr] at hrr hl
   have gx := hρ x
   rw [hx] at gx
   simp only [aI, aP] at gx
   obtain ⟨_, gx⟩ := gx.2 r hrr jA
   obtain ⟨hu, j6, DV, i, zv, hi, hz, hs, hby, K2, hzo⟩ := eJ hE
   obtain ⟨A, cap, news, hvy, g1, g2, g3, g4, g5⟩ := rK hI (hρ y) hl hl1
   obtain ⟨⟨xs, gG, eW, gO⟩, yB, hnS, _⟩ := hI.row id r hrr
   obtain ⟨g, jI, hβ⟩ := oM hI hrr (by omega)
   obtain ⟨agA, hvx⟩ : ∃ agA, a.eval x = .slice (some ⟨g, off, none⟩) len agA := by
    rcases gx with ⟨h0, A', m, alH, K9, hv⟩ | ⟨_, g2, m, alH, A', K9, _, hv, ha⟩
    ·rw [hβ] at K9
     simp only [Value.slice.injEq] at K9
     obtain ⟨rfl, _, _⟩ := K9
     exact ⟨_, by rw [hv, h0]⟩
    ·rw [hβ] at K9
     simp only [Value.slice.injEq, Option.some.injEq, Addr.mk.injEq, and_true] at K9
     obtain ⟨rfl, _, _⟩ := K9
     rcases ha with ha | ha
     ·omega
     ·exact ⟨_, by rw [hv, ha, mD, Nat.mul_one]⟩
   have aly := gG
   rw [hβ] at gG
   rcases gG.2 with ⟨h', _⟩ | ⟨g', alF, cur, h', hge, hg, N9, hcm, F9, GQ⟩
   ·simp at h'
   ·simp only [Value.slice.injEq, Option.some.injEq, Addr.mk.injEq, and_true] at h'
    obtain ⟨rfl, _, rfl⟩ := h'
    rw [mD, Nat.mul_one] at F9 GQ
    have hnl : news.length = l.length := by simpa using g1
    have LA : (news.take len).length = Nat.min l.length len := by
     rw [List.length_take, hnl]; exact Nat.min_comm _ _
    have hml : Nat.min l.length len ≤ len := Nat.min_le_right _ _
    have iU := DY (P := E.P) c.w t t2 type e g off len agA A l.length cap cur r.e (news.take len) hu (by simp [hi, hs]) hg LA
     (fun ad had j v hj => g5 ad had j v (by rw [List.getElem?_take] at hj; split at hj; exact hj; cases hj)) (fun hA => by
      have := g4 hA
      subst this
      have : news = [] := List.eq_nil_of_length_eq_zero (by simpa using hnl)
      simp [this]) (by rw [LA]; omega) (fun v hv => g3 v (List.mem_of_mem_take hv))
    have VI : (execOp a.eval { dst := dst, op := .call { callee := .builtin .copy, args := ⟨[x, y]⟩, argTypes := ⟨[t, t2]⟩ }, type := type, pos := pos, after := after, guard := guard }).run E.P c.w = .ok (.value (goInt (news.take len).length)) (c.w.setRow g (cur.toList.take off ++ news.take len ++ cur.toList.drop (off + (news.take len).length)).toArray) := by
     simp only [execOp, resolve, invoke, builtin, Sem.run_bind, Sem.run_pure, Result.andThen_ok, List.map_toArray, List.map_cons, List.map_nil, hvx, hvy, iU]
    have one : ∀ {l : List (List PV)}, (∀ e ∈ l, e.length = 1) → ∀ k, (l.take k).flatten = l.flatten.take k ∧ (l.drop k).flatten = l.flatten.drop k := by
     intro l
     induction l with
     | nil => intro _ k; simp
     | cons e l ih =>
      intro hh k
      have he := hh e (by simp)
      match e, he with
      | [p], _ =>
       cases k with
       | zero => simp
       | succ k =>
        have := ih (fun e he => hh e (by simp [he])) k
        simp [this.1, this.2]
    have OJ : ∀ e ∈ r.els, e.length = 1 := fun e he => by rw [yB e he, mD]
    have auw : r.els.flatten.length = r.els.length := by rw [eW.length, gG.1, mD, Nat.mul_one]
    have hlf : l.flatten.length = l.length := by rw [g2.length, hnl]
    have aer : min l.length len = Nat.min l.length len := rfl
    have VA : (c.w.setRow g (cur.toList.take off ++ news.take len ++ cur.toList.drop (off + (news.take len).length)).toArray).ownsRow w0.heap.size r.e r.size (c.β id) (r.els.take off ++ l.take len ++ r.els.drop (off + min l.length len)).length
      (xs.take off ++ news.take len ++ xs.drop (off + (news.take len).length)) := by
     have UQ : (r.els.take off ++ l.take len ++ r.els.drop (off + min l.length len)).length = r.els.length := by simp; omega
     have hxl : xs.length = r.els.length := by rw [gG.1, mD, Nat.mul_one]
     rw [hβ, UQ]
     refine ⟨?_, .inr ⟨g, jI, _, rfl, hge, setRow_heap _ g cur _ r.e _ hg, N9, hcm, ?_, ?_⟩⟩
     ·rw [mD, Nat.mul_one]; simp [LA]; omega
     ·rw [mD, Nat.mul_one]; simp [LA]; omega
     ·rw [mD, Nat.mul_one, ← GQ]
      have ara : cur.toList.length = jI := by simp [F9]
      simp only
      rw [List.take_append, List.take_append]
      have e1 : List.take r.els.length (cur.toList.take off) = cur.toList.take off := by rw [List.take_take, Nat.min_eq_right (by omega)]
      have e2 : List.take off (cur.toList.take r.els.length) = cur.toList.take off := by rw [List.take_take, Nat.min_eq_left (by omega)]
      rw [e1, e2]
      have e3 : (cur.toList.take off).length = off := by rw [List.length_take]; omega
      have e4 : List.take (r.els.length - off) (news.take len) = news.take len := List.take_of_length_le (by rw [LA]; omega)
      rw [e3, e4]
      congr 1
      rw [List.length_append, e3, List.drop_take]
    have oP : c.w.grownBy (c.w.setRow g (cur.toList.take off ++ news.take len ++ cur.toList.drop (off + (news.take len).length)).toArray) (c.β id).ownBlock := by
     rw [hβ]
     exact ⟨rfl, rfl, rfl, by simp, fun k _ hk => setRow_other _ g k _ (fun e => hk (by simp [Value.ownBlock, e]))⟩
    obtain ⟨uG, hA⟩ := hI.dE (r' := { r with els := r.els.take off ++ l.take len ++ r.els.drop (off + min l.length len) }) hrr oP VA (by
     show a7 (aP c) (r.els.take off ++ l.take len ++ r.els.drop (off + min l.length len)).flatten _
     rw [List.flatten_append, List.flatten_append, (one OJ off).1, (one hl1 len).1, (one OJ _).2, aer, ← LA]
     exact ((eW.take _).append (g2.take _)).append (eW.drop _)) (by
     intro y' A6
     simp only [List.mem_append] at A6
     rcases A6 with (A6 | A6) | A6
     ·exact gO y' (List.mem_of_mem_take A6)
     ·exact g3 y' (List.mem_of_mem_take A6)
     ·exact gO y' (List.mem_of_mem_drop A6)) (by
     intro e' sJ
     simp only [List.mem_append] at sJ
     rw [mD]
     rcases sJ with (sJ | sJ) | sJ
     ·exact OJ e' (List.mem_of_mem_take sJ)
     ·exact hl1 e' (List.mem_of_mem_take sJ)
     ·exact OJ e' (List.mem_of_mem_drop sJ)) rfl rfl (by simp; omega)
    refine value VI (hK _ _ _ h ?_)
    exact lK hf hG hn eK hA uG (bY.2 (by
     have h9 := LA
     rw [← aer] at h9
     simp only [goInt, h9]
     congr 1
     omega)) hd rfl (by simp [hr]) eT
  ·exact h.elim
 ·-- a call
  rename_i fo args ts
  have fI : a7 (aI c) (args.toList.map fun x => aQ σ.f x) (args.map a.eval).toList := by
   refine a7.cY (by simp) fun k p u hp hu => ?_
   simp at hp hu
   obtain ⟨x, hx, rfl⟩ := hp
   obtain ⟨y, hy, rfl⟩ := hu
   rw [hx] at hy; cases hy
   exact hρ x
  split at h
  ·have hfo := hρ fo
   unfold K5 at h
   split at h
   ·rename_i g heq
    rw [heq] at hfo
    obtain ⟨R, ⟨⟨fn, b, h1, h2, h3⟩, K7⟩, hk⟩ := h
    simp only [aI, aP, cL] at hfo
    obtain ⟨cs, hfv, F9⟩ := hfo
    simp only [bJ] at F9
    subst F9
    have oR := K7 w0 S0 c _ (fun p => p ∈ G ∨ ∃ s, p = (σ.f s, a.tmps.getD s undef)) hI hr eT fI (by
     rintro p (hp | ⟨s, rfl⟩)
     ·exact hG p hp
     ·exact hf s)
    simp only [Array.toArray_toList] at oR
    unfold Oper.wp
    have iU : (execOp a.eval { dst := dst, op := .call { callee := .value fo, args := args, argTypes := ts }, type := type, pos := pos, after := after, guard := guard }).run E.P c.w = .ok (.enter g (args.map a.eval)) c.w := by
     simp only [execOp, resolve, hfv, Deferred.ofValue, Sem.run_bind, Sem.run_pure, Result.andThen_ok, invoke]
     simpa using kO h1 h2 h3 (args.map a.eval) c.w
    rw [iU]
    refine oR.mono ?_
    rintro e w' ⟨v', c', r, jK, rfl, rfl, uG, hG', jZ, agC, hv'⟩
    refine hK _ _ _ (hk _ _ _ jZ) ?_
    exact VC (fun s => hG' (σ.f s, a.tmps.getD s undef) (.inr ⟨s, rfl⟩)) (fun p hp => hG' p (.inl hp)) hn eK uG hv' hd rfl rfl agC
   ·exact h.elim
  obtain ⟨v, hc, hp, hk⟩ := h
  rw [← hr] at hc hp hk
  have U7 : vN E (aQ σ.f fo) ((args.toList.map fun x => aQ σ.f x).map (pz c.rows)) v := by rw [List.map_map]; exact hc
  obtain ⟨g, cs, h1, h2, h3⟩ := vO hI (ids := args.toList.flatMap fun x => dC (aQ σ.f x)) hp (hρ fo) fI (by
   intro p hp id gE
   simp at hp
   obtain ⟨x, hx, rfl⟩ := hp
   simp only [List.mem_flatMap]; exact ⟨x, by simpa using hx, gE⟩) U7 (K := fun v' w' => K' (a.put dst v') w') (fun v' c' q1 q2 q3 q4 q5 => hK _ _ _ hk (lK hf hG hn eK q3 q4 q5 hd rfl (by simp [q1]) (by rw [q2]; exact eT)))
  unfold Oper.wp
  have iU : (execOp a.eval { dst := dst, op := .call { callee := .value fo, args := args, argTypes := ts }, type := type, pos := pos, after := after, guard := guard }).run E.P c.w = .ok (.enter g (args.map a.eval ++ cs)) c.w := by
   simp only [execOp, resolve, h1, Deferred.ofValue, Sem.run_bind, Sem.run_pure, Result.andThen_ok, invoke]
   simp only [Array.toArray_toList] at h2
   simpa only [Array.empty_append] using h2
  rw [iU]
  simp only [Array.toArray_toList] at h3
  exact h3.mono fun e w' ⟨v', he, hk⟩ => by subst he; exact hk
 ·-- a closure
  rename_i g b8
  obtain ⟨qW, hp, hk⟩ := h
  rw [← hr] at qW hp hk
  have GR := hI.freeze (b8.toList.flatMap fun x => dC (aQ σ.f x))
  refine value (v' := .func (.func g) #[] (b8.map a.eval)) (w' := c.w) (by simp [execOp, Instr.makeFunc]) (hK _ _ _ hk ?_)
  refine lK (c' := AX c (b8.toList.flatMap fun x => dC (aQ σ.f x))) hf hG hn eK (kE c _) GR ?_ hd rfl (by simp [AX]) eT
  simp only [aI, aP, cL]
  refine ⟨(b8.map a.eval).toList, by rw [Array.toArray_toList], cB.2 (a7.cY (by simp) fun k p u uF hu => ?_)⟩
  simp at uF hu
  obtain ⟨x, hx, rfl⟩ := uF
  obtain ⟨y, hy, rfl⟩ := hu
  rw [hx] at hy; cases hy
  have rL : x ∈ b8.toList := by simpa using Array.mem_of_getElem? hx
  exact DT hI hp (hρ x) (fun id gE => by simp only [List.mem_flatMap]; exact ⟨x, rL, gE⟩) (List.all_eq_true.1 qW _ (by simp; exact ⟨x, by simpa using rL, rfl⟩))
 ·exact alM h
end
def gH (op : Op) (ρ : Operand → PV) : List Nat :=
 match op with
 | .load _ p => aZ (ρ p)
 | .fieldAddr _ x _ => aZ (ρ x)
 | .indexAddr _ x _ => aZ (ρ x)
 | .slice _ x _ _ _ => aZ (ρ x)
 | .store _ p x => aZ (ρ p) ++ ((bP (ρ x)).getD []).flatMap aZ
 | .call { callee := .builtin .len, args := ⟨[x]⟩, argTypes := ⟨[_]⟩ } => aZ (ρ x)
 | .call { callee := .builtin .append, args := ⟨[x, y]⟩, argTypes := ⟨[_, _]⟩ } => aZ (ρ x) ++ aZ (ρ y)
 | .nilCheck x => aZ (ρ x)
 | _ => []
def iV (ids : List Nat) (rows rows' : Rows) : Prop := ∀ id ∈ ids, ∀ r, rows id = some r → rows' id = some r
section
variable {E : Env}
theorem DZ {rows rows' : Rows} {p : PV} (h : aZ p = []) : fz rows p = fz rows' p := by cases p <;> simp_all [fz, aZ]
theorem abI {rows rows' : Rows} {p : PV} (h : dC p = []) : pz rows p = pz rows' p := by
 cases p with
 | ag l =>
  simp only [dC, List.flatMap_eq_nil_iff] at h
  simp only [pz]
  congr 1
  exact List.map_congr_left fun q hq => DZ (h q hq)
 | _ => simp only [pz, dC] at h ⊢; exact DZ h
theorem D0 {rows rows' : Rows} {p : PV} (h : iV (aZ p) rows rows') (ho : gN rows p) : gN rows' p := by
 cases p with
 | own id ver off len => obtain ⟨r, hr, hv⟩ := ho; exact ⟨r, h id (by simp [aZ]) r hr, hv⟩
 | ptr id ver i j => obtain ⟨r, hr, hv⟩ := ho; exact ⟨r, h id (by simp [aZ]) r hr, hv⟩
 | _ => exact ho
theorem RJ {rows : Rows} {p : PV} (ho : gN rows p) : ∀ id ∈ aZ p, ∃ r, rows id = some r := by
 intro id gE
 cases p with
 | own iQ ver off len => simp [aZ] at gE; subst gE; obtain ⟨r, hr, _⟩ := ho; exact ⟨r, hr⟩
 | ptr iQ ver i j => simp [aZ] at gE; subst gE; obtain ⟨r, hr, _⟩ := ho; exact ⟨r, hr⟩
 | _ => simp [aZ] at gE
theorem VJ {t : TypeId} {rows rows' : Rows} {p v : PV} (h : iV (aZ p) rows rows') (hy : qR E t rows p v) : qR E t rows' p v ∧ ∀ id ∈ aZ p, ∃ r, rows id = some r := by
 obtain ⟨hk, hy⟩ := hy
 cases p with
 | ptr id ver i j =>
  obtain ⟨r, hr, hh⟩ := hy
  exact ⟨⟨hk, r, h id (by simp [aZ]) r hr, hh⟩, by simp [aZ]; exact ⟨r, hr⟩⟩
 | rd l => exact ⟨⟨hk, hy⟩, by simp [aZ]⟩
 | _ => exact hy.elim
theorem A7 {t : TypeId} {i : Nat} {rows rows' : Rows} {x v : PV} (h : iV (aZ x) rows rows') (hy : eH E t rows i x v) : eH E t rows' i x v ∧ ∀ id ∈ aZ x, ∃ r, rows id = some r := by
 unfold eH at *
 split at hy
 ·rename_i fs z hE
  obtain ⟨o, n, b, hf, hy⟩ := hy
  cases x with
  | ptr id ver a j =>
   obtain ⟨⟨r, hr, hv⟩, hh⟩ := hy
   exact ⟨⟨o, n, b, hf, ⟨r, h id (by simp [aZ]) r hr, hv⟩, hh⟩, by simp [aZ]; exact ⟨r, hr⟩⟩
  | rd l => exact ⟨⟨o, n, b, hf, hy⟩, by simp [aZ]⟩
  | _ => exact hy.elim
 ·exact hy.elim
theorem A8 {t : TypeId} {rows rows' : Rows} {x ix v : PV} (h : iV (aZ x) rows rows') (hy : eI E t rows x ix v) : eI E t rows' x ix v ∧ ∀ id ∈ aZ x, ∃ r, rows id = some r := by
 unfold eI at *
 split at hy
 ·split at hy
  ·obtain ⟨h0, hy⟩ := hy
   cases x with
   | own id ver off len =>
    obtain ⟨r, hr, hh⟩ := hy
    exact ⟨⟨h0, r, h id (by simp [aZ]) r hr, hh⟩, by simp [aZ]; exact ⟨r, hr⟩⟩
   | sl l => exact ⟨⟨h0, hy⟩, by simp [aZ]⟩
   | iS l => exact ⟨⟨h0, hy⟩, by simp [aZ]⟩
   | _ => exact hy.elim
  ·exact hy.elim
 ·split at hy
  ·obtain ⟨h0, hy⟩ := hy
   cases x with
   | ptr id ver a j =>
    obtain ⟨⟨r, hr, hv⟩, hh⟩ := hy
    exact ⟨⟨h0, ⟨r, h id (by simp [aZ]) r hr, hv⟩, hh⟩, by simp [aZ]; exact ⟨r, hr⟩⟩
   | rd l => exact ⟨⟨h0, hy⟩, by simp [aZ]⟩
   | _ => exact hy.elim
  ·exact hy.elim
 ·exact hy.elim
theorem RK {t : TypeId} {rows rows' : Rows} {x v : PV} {lo hi mx : Option PV} (h : iV (aZ x) rows rows') (hy : mC E t rows x lo hi mx v) : mC E t rows' x lo hi mx v ∧ ∀ id ∈ aZ x, ∃ r, rows id = some r := by
 unfold mC at *
 split at hy
 ·cases x with
  | own id ver off len =>
   obtain ⟨r, hr, hh⟩ := hy
   exact ⟨⟨r, h id (by simp [aZ]) r hr, hh⟩, by simp [aZ]; exact ⟨r, hr⟩⟩
  | nil => exact ⟨hy, by simp [aZ]⟩
  | sl l => exact ⟨hy, by simp [aZ]⟩
  | iS l => exact ⟨hy, by simp [aZ]⟩
  | _ => exact hy.elim
 ·exact hy.elim
theorem abJ {rows rows' : Rows} {x : PV} {n : Nat} (h : iV (aZ x) rows rows') (hy : RC rows x n) : RC rows' x n ∧ ∀ id ∈ aZ x, ∃ r, rows id = some r := by
 unfold RC at *
 cases x with
 | own id ver off len =>
  obtain ⟨⟨r, hr, hv⟩, hh⟩ := hy
  exact ⟨⟨⟨r, h id (by simp [aZ]) r hr, hv⟩, hh⟩, by simp [aZ]; exact ⟨r, hr⟩⟩
 | nil => exact ⟨hy, by simp [aZ]⟩
 | sl l => exact ⟨hy, by simp [aZ]⟩
 | iS l => exact ⟨hy, by simp [aZ]⟩
 | _ => exact hy.elim
theorem abK {rows rows' : Rows} {x v : PV} (h : iV (aZ x) rows rows') (hy : A5 rows x v) : A5 rows' x v ∧ ∀ id ∈ aZ x, ∃ r, rows id = some r := by
 unfold A5 at *
 cases x with
 | ptr id ver i j =>
  obtain ⟨⟨r, hr, hv⟩, hh⟩ := hy
  exact ⟨⟨⟨r, h id (by simp [aZ]) r hr, hv⟩, hh⟩, by simp [aZ]; exact ⟨r, hr⟩⟩
 | rd l => exact ⟨hy, by simp [aZ]⟩
 | _ => exact hy.elim
theorem RL {t : TypeId} {rows rows' : Rows} {p x v : PV} {u : Option (Nat × Row)} (h : iV (aZ p ++ ((bP x).getD []).flatMap aZ) rows rows') (hy : oO E t rows p x v u) :
  oO E t rows' p x v u ∧ (∀ id ∈ aZ p ++ ((bP x).getD []).flatMap aZ, ∃ r, rows id = some r) ∧ ∃ id r, u = some (id, r) ∧ id ∈ aZ p := by
 obtain ⟨hk, hv, hy⟩ := hy
 cases p with
 | ptr id ver i j =>
  obtain ⟨r, hr, jA, el, m6, l, hl, gO, hh1, hh2, hh3⟩ := hy
  rw [hl] at h ⊢
  simp only [Option.getD_some] at h ⊢
  refine ⟨⟨hk, hv, r, h id (by simp [aZ]) r hr, jA, el, m6, l, hl, fun q hq => D0 (fun iQ yC => h iQ ?_) (gO q hq), hh1, hh2, hh3⟩, ?_, ?_⟩
  ·simp only [List.mem_append, List.mem_flatMap]; exact .inr ⟨q, hq, yC⟩
  ·intro iQ yC
   simp only [List.mem_append, List.mem_flatMap] at yC
   rcases yC with yC | ⟨q, hq, yC⟩
   ·simp [aZ] at yC; subst yC; exact ⟨r, hr⟩
   ·exact RJ (gO q hq) iQ yC
  ·exact ⟨id, _, hh3, by simp [aZ]⟩
 | _ => exact hy.elim
theorem aet {op : Op} {ρ : Operand → PV} {rows rows' : Rows} {v : PV} {u : Option (Nat × Row)} (h : iV (gH op ρ) rows rows') (hy : ys E op ρ rows v u) :
  ys E op ρ rows' v u ∧ (∀ id ∈ gH op ρ, ∃ r, rows id = some r) ∧ ∀ id r, u = some (id, r) → id ∈ gH op ρ := by
 unfold ys at hy ⊢
 split at hy
 ·rename_i t p x
  obtain ⟨h1, h2, id, r, h3, h4⟩ := RL h hy
  exact ⟨h1, h2, fun iQ r' hu => by rw [h3] at hu; cases hu; simp only [gH, List.mem_append]; exact .inl h4⟩
 ·rename_i t len parts
  obtain ⟨hy, rfl⟩ := hy
  unfold K4 at hy ⊢
  split at hy
  ·obtain ⟨els, h1, h2, h3, h4, h5, h6, rfl⟩ := hy
   have hfz : ∀ e ∈ els, ∀ p ∈ e, fz rows p = fz rows' p := fun e he p hp => DZ (h6 e he p hp)
   refine ⟨⟨⟨els, h1, h2, h3, h4, fun e he p hp => ⟨by rw [← hfz e he p hp]; exact (h5 e he p hp).1, D0 (by rw [h6 e he p hp]; intro id gE; cases gE) (h5 e he p hp).2⟩, h6, ?_⟩, rfl⟩, by simp [gH], by simp⟩
   congr 1
   exact List.map_congr_left fun e he => List.map_congr_left fun p hp => hfz e he p hp
  ·exact hy.elim
 ·rename_i f args ts
  obtain ⟨rfl, h1, h2⟩ := hy
  refine ⟨⟨rfl, ?_, h2⟩, by simp [gH], by simp⟩
  have : (args.toList.map fun x => pz rows (ρ x)) = args.toList.map fun x => pz rows' (ρ x) :=
   List.map_congr_left fun x hx => abI (List.flatMap_eq_nil_iff.1 h2 x hx)
  rw [← this]; exact h1
 ·obtain ⟨hy, rfl⟩ := hy
  suffices hs : yv E op ρ rows' v ∧ ∀ id ∈ gH op ρ, ∃ r, rows id = some r from ⟨⟨hs.1, rfl⟩, hs.2, by simp⟩
  unfold yv at hy ⊢
  split at hy
  case h_8 => exact VJ h hy
  case h_10 => exact A7 h hy
  case h_11 => exact A8 h hy
  case h_12 => exact RK h hy
  case h_16 =>
   simp only [gH] at h ⊢
   unfold vG at hy ⊢
   split at hy
   ·obtain ⟨n, hn, hv⟩ := hy
    have := abJ (rows' := rows') h hn
    exact ⟨⟨n, this.1, hv⟩, this.2⟩
   ·exact hy.elim
  case h_19 => exact abK h hy
  all_goals first
   | exact hy.elim
   | exact ⟨hy, by simp [gH]⟩
end
end Pm
