import Derived.Laws.CopyOwn
import Derived.ArgAppend
import Derived.Test.YtbbjgncblhfegaaGreatFaa
set_option linter.unusedSimpArgs false
set_option linter.unusedVariables false
namespace Pm
open Go Go.RowKit
def CZ (rows : Rows) (ids : List Nat) : Rows := fun j => if j ∈ ids then none else rows j
def L6 (c : Cx) (ids : List Nat) : dF := fun b o => c.S b o ∨ ∃ id ∈ ids, (∃ r, c.rows id = some r) ∧ (c.β id).ownBlock = some b
section
variable {E : Env} {c : Cx} {w0 : World} {S0 : dF}
def BT (c : Cx) (ids : List Nat) : Cx := { c with S := L6 c ids, rows := CZ c.rows ids }
theorem kQ (c : Cx) (ids : List Nat) : rS c (BT c ids) :=
 ⟨fun _ _ h => .inl h, fun _ _ _ => rfl, fun _ h => h, fun id r hr => by
  simp only [BT, CZ] at hr ⊢
  split at hr
  ·cases hr
  ·exact .inr ⟨r, hr, rfl, rfl, rfl, by first | rfl | trivial⟩⟩
theorem Inv.freeze (hI : Inv w0 S0 c) (ids : List Nat) : Inv w0 S0 (BT c ids) := by
 have live : ∀ {k : Nat} {t : Row}, CZ c.rows ids k = some t → c.rows k = some t ∧ k ∉ ids := by
  intro k t h
  simp only [CZ] at h
  split at h
  ·cases h
  ·rename_i hk; exact ⟨h, hk⟩
 have ar9 : ∀ {id : Nat} {r : Row} {g : Nat}, c.rows id = some r → (c.β id).ownBlock = some g → w0.heap.size ≤ g ∧ g < c.w.heap.size := by
  intro id r g hr hg
  obtain ⟨⟨ys, g1, _, _⟩, _⟩ := hI.row id r hr
  exact g1.lt g hg
 refine ⟨hI.below, fun b o h => .inl (hI.ext b o h), fun b o h => ?_, hI.lt0, fun id r hr => hI.clock id r (live hr).1, fun id r hr => ?_, fun i j r s g hr hs => hI.apart i j r s g (live hr).1 (live hs).1⟩
 ·rcases h with h | ⟨id, _, ⟨r, hr⟩, hb⟩
  ·exact hI.new b o h
  ·exact .inr (ar9 hr hb)
 ·obtain ⟨jL, hk⟩ := live hr
  obtain ⟨⟨ys, g1, g2, g3⟩, g4, g5, g6⟩ := hI.row id r jL
  refine ⟨⟨ys, g1, g2.mono (aQ.rT (kQ c ids)), g3⟩, g4, fun g o hg hS => ?_, g6⟩
  rcases hS with h | ⟨iX, yX, ⟨r', cO⟩, hb⟩
  ·exact g5 g o hg h
  ·have := hI.apart id iX r r' g jL cO hg hb
   subst this
   exact hk yX
theorem PR (hI : Inv w0 S0 c) {ids : List Nat} (hp : ∀ id ∈ ids, ∀ r, c.rows id = some r → ∀ e ∈ r.els, ∀ p ∈ e, bY p = true) {id : Nat} (gN : id ∈ ids) {r : Row} (hr : c.rows id = some r)
  {g n cap : Nat} (hβ : c.β id = .slice (some ⟨g, 0, none⟩) n cap) {i j : Nat} {el : List PV} {p : PV} (hi : r.els[i]? = some el) (hj : el[j]? = some p) :
  ∃ v, c.w.cell? ⟨g, i * r.size + j, none⟩ = some v ∧ L6 c ids g (i * r.size + j) ∧ v.oneCell' = true ∧ cP (L6 c ids) c.w p v := by
 obtain ⟨v, h1, h2, h3⟩ := s6 hI hr hβ hi hj
 refine ⟨v, h1, .inr ⟨id, gN, ⟨r, hr⟩, by simp [hβ, Value.ownBlock]⟩, h2, ?_⟩
 have h4 := h3.rep (hp id gN r hr el (List.mem_of_getElem? hi) p (List.mem_of_getElem? hj))
 exact cP.mono (fun _ _ h => .inl h) (fun _ _ _ => rfl) _ _ h4
theorem ET (hI : Inv w0 S0 c) {ids : List Nat} (hp : ∀ id ∈ ids, ∀ r, c.rows id = some r → ∀ e ∈ r.els, ∀ p ∈ e, bY p = true) {p : PV} {v : Value} (h : aQ c p v) (rW : ∀ id ∈ a9 p, id ∈ ids) (u4 : bY (fz c.rows p) = true) :
  cP (L6 c ids) c.w (fz c.rows p) v := by
 have mono : ∀ q u, cP c.S c.w q u → cP (L6 c ids) c.w q u := fun q u => cP.mono (fun _ _ h => .inl h) (fun _ _ _ => rfl) q u
 cases p with
 | own id ver off len =>
  simp only [fz] at u4 ⊢
  have gN : id ∈ ids := rW id (by simp [a9])
  cases hr : c.rows id with
  | none => simp [hr, bY] at u4
  | some r =>
   simp only [hr] at u4 ⊢
   by_cases hv : r.ver = ver
   ·simp only [hv, if_true] at u4 ⊢
    simp only [aQ] at h
    obtain ⟨hle, h⟩ := h.2 r hr hv
    obtain ⟨⟨xs, gP, _, _⟩, hlen, _⟩ := hI.row id r hr
    have acd : ∀ A m cap, c.β id = .slice A m cap → r.els.length ≤ cap ∧ cap ≤ maxLen := by
     intro A m cap hβ
     rw [hβ] at gP
     rcases gP.2 with ⟨h', hz⟩ | ⟨g, jN, cur, h', _, _, PO, hm, _⟩
     ·simp at h'; exact ⟨by omega, by rw [h'.2.2]; simp⟩
     ·simp at h'; obtain ⟨_, _, rfl⟩ := h'; exact ⟨PO, hm⟩
    have L7 : ((r.els.drop off).take len).length = len := by simp; omega
    have els : ∀ g n cap, c.β id = .slice (some ⟨g, 0, none⟩) n cap → eI (L6 c ids) c.w g (off * r.size) ((r.els.drop off).take len) := by
     intro g n cap hβ
     refine mW (n := r.size) (fun e he => hlen e (List.mem_of_mem_drop (List.mem_of_mem_take he))) fun k e hk => ?_
     rw [List.getElem?_take] at hk
     split at hk
     ·rw [List.getElem?_drop] at hk
      refine iL fun j q hq => ?_
      have := PR hI hp gN hr hβ hk hq
      rw [show off * r.size + k * r.size + j = (off + k) * r.size + j by rw [Nat.add_mul]]; exact this
     ·cases hk
    simp only [cP]
    rw [L7]
    rcases h with ⟨rfl, A, n, cap, hβ, rfl⟩ | ⟨kH, g, n, cap, A, hβ, hoc, rfl, ha⟩
    ·obtain ⟨c1, c2⟩ := acd _ _ _ hβ
     refine ⟨A, cap, rfl, by omega, c2, ?_⟩
     rcases Nat.eq_zero_or_pos len with h0 | h0
     ·left; exact List.eq_nil_of_length_eq_zero (by rw [L7]; exact h0)
     ·right
      obtain ⟨g, jN, o0⟩ := oZ hI hr (by omega)
      rw [hβ] at o0
      simp only [Value.slice.injEq] at o0
      obtain ⟨rfl, rfl, rfl⟩ := o0
      exact ⟨g, 0, rfl, by simpa using els g _ _ hβ⟩
    ·obtain ⟨c1, c2⟩ := acd _ _ _ hβ
     refine ⟨some A, cap - off, rfl, by omega, by omega, ?_⟩
     rcases ha with rfl | rfl
     ·left; exact List.eq_nil_of_length_eq_zero L7
     ·right; exact ⟨g, off * r.size, rfl, els g n cap hβ⟩
   ·simp [hv, bY] at u4
 | ptr id ver i j =>
  simp only [fz] at u4 ⊢
  have gN : id ∈ ids := rW id (by simp [a9])
  cases hr : c.rows id with
  | none => simp [hr, bY] at u4
  | some r =>
   simp only [hr] at u4 ⊢
   by_cases hv : r.ver = ver
   ·simp only [hv, if_true] at u4 ⊢
    simp only [aQ] at h
    obtain ⟨g, n, cap, hβ, rfl⟩ := h.2 r hr hv
    simp only [cP]
    refine ⟨g, i * r.size + j, rfl, iL fun k q hq => ?_⟩
    rw [List.getElem?_drop] at hq
    cases nP : r.els[i]? with
    | none => simp [List.getD, nP] at hq
    | some el =>
     have hq' : el[j + k]? = some q := by simpa [List.getD, nP] using hq
     have := PR hI hp gN hr hβ nP hq'
     rw [show i * r.size + j + k = i * r.size + (j + k) by omega]; exact this
   ·simp [hv, bY] at u4
 | nil =>
  simp only [aQ, cP] at h
  subst h
  simp only [fz, cP]
  exact ⟨none, 0, rfl, by simp, by simp [maxLen], .inl (by first | rfl | trivial)⟩
 | i3 l =>
  simp only [fz]
  have := mono _ _ (show cP c.S c.w (.i3 l) v by simpa only [aQ] using h)
  simp only [cP] at this ⊢
  obtain ⟨A, rfl, h1, h2⟩ := this
  exact ⟨A, l.length, rfl, Nat.le_refl _, h1, h2⟩
 | undef => simp [fz, bY] at u4
 | _ => simp only [fz]; exact mono _ _ (by simpa only [aQ] using h)
theorem EU (hI : Inv w0 S0 c) {ids : List Nat} (hp : ∀ id ∈ ids, ∀ r, c.rows id = some r → ∀ e ∈ r.els, ∀ p ∈ e, bY p = true) {p : PV} {v : Value} (h : aK c p v) (rW : ∀ id ∈ dG p, id ∈ ids) (u4 : fA (pz c.rows p) = true) :
  cP (L6 c ids) c.w (pz c.rows p) v := by
 cases p with
 | ag l =>
  obtain ⟨vs, rfl, HK⟩ := h
  simp only [pz, fA] at u4 ⊢
  simp only [cP]
  refine ⟨vs, rfl, cI.2 (bB.c7 (by simp [HK.length]) fun k q u hq hu => ?_)⟩
  simp at hq
  obtain ⟨q', hq', rfl⟩ := hq
  obtain ⟨u', h1, h2⟩ := HK.get hq'
  rw [hu] at h1; cases h1
  refine ET hI hp h2 (fun id gN => rW id ?_) (List.all_eq_true.1 u4 _ (by simp; exact ⟨q', List.mem_of_getElem? hq', rfl⟩))
  simp only [dG, List.mem_flatMap]
  exact ⟨q', List.mem_of_getElem? hq', gN⟩
 | _ =>
  simp only [pz] at u4 ⊢
  refine ET hI hp (by simpa only [aK] using h) (fun id gN => rW id (by simpa only [dG] using gN)) ?_
  revert u4
  simp only [fz]
  first
   | (intro u4; simpa only [fA] using u4)
   | (split
      · split
        · intro _; rfl
        · intro u4; exact u4
      · intro u4; exact u4)
end
theorem wE {α : Type} {n : Nat} : ∀ {els : List (List α)}, (∀ e ∈ els, e.length = n) → ∀ {i : Nat} {el : List α}, els[i]? = some el → ∀ (j : Nat) (l : List α), j + l.length ≤ el.length →
  (els.set i (el.take j ++ l ++ el.drop (j + l.length))).flatten = els.flatten.take (i * n + j) ++ l ++ els.flatten.drop (i * n + j + l.length)
 | [], _, _, _, h, _, _, _ => by simp at h
 | q :: els, hn, 0, el, h, j, l, hjl => by
  simp at h
  subst h
  simp only [List.set_cons_zero, List.flatten_cons, Nat.zero_mul, Nat.zero_add]
  rw [List.take_append_of_le_length (by omega), List.drop_append_of_le_length hjl]
  simp
 | q :: els, hn, i + 1, el, h, j, l, hjl => by
  have hq : q.length = n := hn q (by simp)
  have ih := wE (els := els) (n := n) (fun e he => hn e (by simp [he])) (i := i) (el := el) (by simpa using h) j l hjl
  simp only [List.set_cons_succ, List.flatten_cons, ih]
  have e1 : (i + 1) * n + j = q.length + (i * n + j) := by rw [hq, Nat.add_mul]; omega
  have e2 : (i + 1) * n + j + l.length = q.length + (i * n + j + l.length) := by omega
  rw [e1, show q.length + (i * n + j) + l.length = q.length + (i * n + j + l.length) by omega, List.take_length_add_append, List.drop_length_add_append]
  simp
def o6 (E : Env) (t : TypeId) (rows : Rows) (p x v : PV) (u : Option (Nat × Row)) : Prop :=
 (E.ty t).known = true ∧ v = .undef ∧
 match p with
 | .ptr id ver i j => ∃ r, rows id = some r ∧ r.ver = ver ∧ ∃ el, r.els[i]? = some el ∧ ∃ l, bR x = some l ∧ (∀ q ∈ l, gV rows q) ∧ l.length = (E.ty t).size ∧ j + l.length ≤ el.length ∧
   u = some (id, { r with els := r.els.set i (el.take j ++ l ++ el.drop (j + l.length)) })
 | _ => False
def fW (n : Nat) : Nat → List (Nat × PV) → Option (List (List PV))
 | _, [] => some []
 | k, (i, p) :: ps =>
  match bR p with
  | some l => if i = k ∧ l.length = n then (fW n (k + 1) ps).map (l :: ·) else none
  | none => none
def L8 (t : TI) (rows : Rows) (len : Nat) (parts : List (Nat × PV)) (v : PV) : Prop :=
 match t with
 | .slice _ n _ _ => ∃ els, fW n 0 parts = some els ∧ len = els.length ∧ len ≤ 4096 ∧ n ≤ 4096 ∧ (∀ e ∈ els, ∀ p ∈ e, bY (fz rows p) = true ∧ gV rows p) ∧ (∀ e ∈ els, ∀ p ∈ e, a9 p = []) ∧ v = .i3 (els.map fun e => e.map (fz rows))
 | _ => False
def Gs := PV × Value → Prop
instance : Membership (PV × Value) Gs := ⟨fun G p => G p⟩
def Gs.none : Gs := fun _ => False
theorem Gs.HM {p : PV × Value} : ¬ p ∈ Gs.none := id
def SV (P : Program) (f : FuncId) (args : List PV) (rows : Rows) (clk : Nat) (R : PV → Rows → Nat → Prop) : Prop :=
 (∃ fn c, P.funcs[f]? = some fn ∧ fn.body = some c ∧ (fn.name == "runtime.NumGoroutine") = false) ∧
 ∀ (w0 : World) (S0 : dF) (c : Cx) (vs : List Value) (G : Gs), Inv w0 S0 c → c.rows = rows → (∀ v, c.used v → v < clk) → bB (aK c) args vs → (∀ p ∈ G, aK c p.1 p.2) →
  Calls P f vs.toArray c.w fun e w' => ∃ v c' r jP, e = .returned v ∧ c'.w = w' ∧ Inv w0 S0 c' ∧ (∀ p ∈ G, aK c' p.1 p.2) ∧ R r c'.rows jP ∧ (∀ v, c'.used v → v < jP) ∧ aK c' r v
def ahf (E : Env) : PV → Bool
 | .fn g _ => E.writes g
 | _ => false
def wF (P : Program) (g : FuncId) (fH : List PV) (rows : Rows) (clk : Nat) (K : PV → Rows → Nat → Prop) : Prop :=
 ∃ R, SV P g fH rows clk R ∧ ∀ r rows' jP, R r rows' jP → K r rows' jP
def L9 (E : Env) (p : PV) (fH : List PV) (rows : Rows) (clk : Nat) (K : PV → Rows → Nat → Prop) : Prop :=
 match p with
 | .fn g [] => wF E.P g fH rows clk K
 | _ => False
def wG (E : Env) (f : PV) (args : List PV) (v : PV) : Prop :=
 match f with
 | .fn g cD => (args.all fA = true) ∧ aI E.P g (args ++ cD) v
 | _ => False
def ys (E : Env) (op : Op) (ρ : Operand → PV) (rows : Rows) (v : PV) (u : Option (Nat × Row)) : Prop :=
 match op with
 | .store t p x => o6 E t rows (ρ p) (ρ x) v u
 | .buildSlice t len parts => L8 (E.ty t) rows len (parts.toList.map fun x => (x.1, ρ x.2)) v ∧ u = none
 | .call { callee := .value f, args := args, argTypes := _ } => u = none ∧ wG E (ρ f) (args.toList.map fun x => pz rows (ρ x)) v ∧ (args.toList.flatMap fun x => dG (ρ x)) = []
 | op => yv E op ρ rows v ∧ u = none
def fC (rows : Rows) : Option (Nat × Row) → Rows
 | none => rows
 | some (id, r) => dJ rows id (some r)
section
variable {E : Env} {c : Cx} {w0 : World} {S0 : dF}
theorem MA (hI : Inv w0 S0 c) {t : TypeId} {p x v : PV} {u : Option (Nat × Row)} {vp vx : Value} (hp : aK c p vp) (hx : aK c x vx) (h : o6 E t c.rows p x v u) :
  v = .undef ∧ ∃ w', (Instr.storeAt t vp vx).run E.P c.w = .ok () w' ∧ Inv w0 S0 { c with w := w', rows := fC c.rows u } ∧ rS c { c with w := w', rows := fC c.rows u } := by
 obtain ⟨hk, rfl, h⟩ := h
 refine ⟨rfl, ?_⟩
 split at h
 ·rename_i id ver i j
  obtain ⟨r, hr, jH, el, nP, l, hl, gW, hlen, hjl, rfl⟩ := h
  simp only [aK, aQ] at hp
  obtain ⟨g, n, cap, hβ, rfl⟩ := hp.2 r hr jH
  obtain ⟨⟨xs, gP, fB, ae6⟩, yW, hnS, kH⟩ := hI.row id r hr
  obtain ⟨uQ, WJ⟩ := k8 hx hl gW
  have LW : vx.cells.toList.length = l.length := uQ.length.symm
  have amt := gP
  rw [hβ] at gP
  rcases gP.2 with ⟨h', _⟩ | ⟨g', jN, cur, h', WG, hg, PO, hcm, G8, HN⟩
  ·simp at h'
  ·simp only [Value.slice.injEq, Option.some.injEq, Addr.mk.injEq, and_true] at h'
   obtain ⟨rfl, rfl, rfl⟩ := h'
   have hi : i < r.els.length := (List.getElem?_eq_some_iff.1 nP).1
   have axJ : el.length = r.size := yW el (List.mem_of_getElem? nP)
   have hmul : i * r.size + r.size ≤ r.els.length * r.size := by rw [← Nat.succ_mul]; exact Nat.mul_le_mul_right _ hi
   have avg : r.els.length * r.size ≤ cap * r.size := Nat.mul_le_mul_right _ PO
   have ahg : i * r.size + j + l.length ≤ r.els.length * r.size := by omega
   have lS := run_storeCells_at E.P g (i * r.size + j) r.e vx.cells.toList 0 cur c.w hg (by rw [LW]; omega) WJ
   obtain ⟨inf, _, hi1, _, G7, _, _⟩ := ((E.ok t).zero hk).ok
   have i5 : (Instr.storeAt t (.pointer (some ⟨g, i * r.size + j, none⟩)) vx).run E.P c.w = .ok () (c.w.setRow g (cur.toList.take (i * r.size + j) ++ vx.cells.toList ++ cur.toList.drop (i * r.size + j + l.length)).toArray) := by
    have mM : vx.cells.size = inf.size := by rw [G7, ← hlen, ← LW]; simp
    simp only [Instr.storeAt, Instr.sureAddr, Sem.run_bind, Sem.run_pure, Result.andThen_ok, storeVar, cU hi1, mM]
    simp only [Nat.add_zero, LW] at lS
    simpa using lS
   refine ⟨_, i5, ?_⟩
   have WK : (c.w.setRow g (cur.toList.take (i * r.size + j) ++ vx.cells.toList ++ cur.toList.drop (i * r.size + j + l.length)).toArray).ownsRow w0.heap.size r.e r.size (c.β id) (r.els.set i (el.take j ++ l ++ el.drop (j + l.length))).length
     (xs.take (i * r.size + j) ++ vx.cells.toList ++ xs.drop (i * r.size + j + l.length)) := by
    rw [hβ, List.length_set]
    refine ⟨?_, .inr ⟨g, cap, _, rfl, WG, setRow_heap _ g cur _ r.e _ hg, PO, hcm, ?_, ?_⟩⟩
    ·have := gP.1
     simp [LW]; omega
    ·simp [LW]; omega
    ·rw [← HN]
     have asa : cur.toList.length = cap * r.size := by simp [G8]
     simp only
     rw [List.take_append, List.take_append]
     have e1 : List.take (r.els.length * r.size) (cur.toList.take (i * r.size + j)) = cur.toList.take (i * r.size + j) := by
      rw [List.take_take, Nat.min_eq_right (by omega)]
     have e2 : List.take (i * r.size + j) (cur.toList.take (r.els.length * r.size)) = cur.toList.take (i * r.size + j) := by
      rw [List.take_take, Nat.min_eq_left (by omega)]
     rw [e1, e2]
     have e3 : (cur.toList.take (i * r.size + j)).length = i * r.size + j := by rw [List.length_take]; omega
     rw [e3]
     have e4 : List.take (r.els.length * r.size - (i * r.size + j)) vx.cells.toList = vx.cells.toList := List.take_of_length_le (by rw [LW]; omega)
     rw [e4]
     congr 1
     rw [List.length_append, e3, LW, List.drop_take]
   have yY : bB (aQ c) (r.els.set i (el.take j ++ l ++ el.drop (j + l.length))).flatten (xs.take (i * r.size + j) ++ vx.cells.toList ++ xs.drop (i * r.size + j + l.length)) := by
    rw [wE yW nP j l hjl]
    exact ((fB.take _).append uQ).append (fB.drop _)
   have o7 : c.w.grownBy (c.w.setRow g (cur.toList.take (i * r.size + j) ++ vx.cells.toList ++ cur.toList.drop (i * r.size + j + l.length)).toArray) (c.β id).ownBlock := by
    rw [hβ]
    exact ⟨rfl, rfl, rfl, by simp, fun k _ hk => setRow_other _ g k _ (fun e => hk (by simp [Value.ownBlock, e]))⟩
   exact hI.dJ (r' := { r with els := r.els.set i (el.take j ++ l ++ el.drop (j + l.length)) }) hr o7 WK yY (by
    intro y hy
    simp only [List.mem_append] at hy
    rcases hy with (hy | hy) | hy
    ·exact ae6 y (List.mem_of_mem_take hy)
    ·exact WJ y hy
    ·exact ae6 y (List.mem_of_mem_drop hy)) (by
    intro e he
    rcases List.mem_or_eq_of_mem_set he with he | rfl
    ·exact yW e he
    ·simp; omega) rfl rfl (by simp)
 ·exact h.elim
end
section
variable {E : Env} {c : Cx} {w0 : World} {S0 : dF}
theorem yZ {n : Nat} : ∀ (vs : List (Nat × Value)) (k : Nat) (cells : Array Value), (∀ j x, vs[j]? = some x → x.1 = k + j ∧ x.2.cells.size = n) → cells.size = (k + vs.length) * n →
  ∃ bZ, Instr.fill (fun i => some (i * n, n)) cells vs = some bZ ∧ bZ.toList = cells.toList.take (k * n) ++ vs.flatMap fun x => x.2.cells.toList
 | [], k, cells, _, hs => ⟨cells, rfl, by simp at hs; rw [List.take_of_length_le (by simp [hs])]; simp⟩
 | (i, v) :: vs, k, cells, h, hs => by
  obtain ⟨h1, h2⟩ := h 0 (i, v) (by simp)
  simp only [Nat.add_zero] at h1 h2
  subst h1
  have ahg : i * n + n ≤ cells.size := by
   rw [hs, List.length_cons, ← Nat.succ_mul]
   exact Nat.mul_le_mul_right _ (by omega)
  have hz3 : v.cells.toList.zipIdx = v.cells.zipIdx.toList := by simp
  have CV := nQ (i * n) v.cells.toList 0 cells (by simp [h2]; omega)
  have mM : (List.foldl (fun cs (x : Value × Nat) => cs.setIfInBounds (i * n + x.2) x.1) cells v.cells.toList.zipIdx).size = cells.size := by
   have := congrArg List.length CV
   simp only [Array.length_toList] at this
   rw [this]
   simp [h2]
   omega
  obtain ⟨bZ, g1, g2⟩ := yZ vs (i + 1) (List.foldl (fun cs (x : Value × Nat) => cs.setIfInBounds (i * n + x.2) x.1) cells v.cells.toList.zipIdx)
   (fun j x hx => by have := h (j + 1) x (by simpa using hx); exact ⟨by omega, this.2⟩) (by rw [mM, hs, List.length_cons]; congr 1; omega)
  refine ⟨bZ, ?_, ?_⟩
  ·simp only [Instr.fill]
   rw [if_neg (by simp [h2]; omega), ← g1, hz3, Array.foldl_toList]
  ·rw [g2, CV]
   have e1 : (cells.toList.take (i * n + 0)).length = i * n := by rw [List.length_take]; simp; omega
   have e2 : v.cells.toList.length = n := by simp [h2]
   rw [show (i + 1) * n = i * n + n by rw [Nat.add_mul]; omega]
   rw [List.take_append, List.length_append, e1, e2, Nat.sub_self, List.take_zero, List.append_nil, List.take_of_length_le (by rw [List.length_append, e1, e2]; exact Nat.le_refl _)]
   simp [List.append_assoc]
theorem mN {n : Nat} : ∀ {ps : List (Nat × PV)} {k : Nat} {els : List (List PV)}, fW n k ps = some els → els.length = ps.length ∧ (∀ e ∈ els, e.length = n) ∧ ∀ j x, ps[j]? = some x → x.1 = k + j ∧ ∃ e, els[j]? = some e ∧ bR x.2 = some e
 | [], k, els, h => by simp [fW] at h; subst h; simp
 | (i, p) :: ps, k, els, h => by
  simp only [fW] at h
  split at h
  ·rename_i l hl
   split at h
   ·rename_i CU
    rw [Option.map_eq_some_iff] at h
    obtain ⟨EV, h1, rfl⟩ := h
    obtain ⟨g1, g2, g3⟩ := mN h1
    refine ⟨by simp [g1], fun e he => ?_, fun j x hx => ?_⟩
    ·simp at he
     rcases he with rfl | he
     ·exact CU.2
     ·exact g2 e he
    ·match j with
     | 0 => simp at hx; subst hx; exact ⟨by simpa using CU.1, l, by simp, hl⟩
     | j + 1 =>
      obtain ⟨q1, q2⟩ := g3 j x (by simpa using hx)
      exact ⟨by omega, by simpa using q2⟩
   ·cases h
  ·cases h
theorem Inv.asb (hI : Inv w0 S0 c) (o : Obj) : Inv w0 S0 { c with w := c.w.alloc o, S := fun b k => c.S b k ∨ b = c.w.heap.size } ∧ rS c { c with w := c.w.alloc o, S := fun b k => c.S b k ∨ b = c.w.heap.size } := by
 have := hI.grow (w' := c.w.alloc o) (S' := fun b k => c.S b k ∨ b = c.w.heap.size) ((Below.refl _ _).alloc (Nat.le_refl _) o) (fun _ _ h => .inl h) (fun b k h => h.imp (fun h => h) fun h => by subst h; simp)
 exact this
theorem WL {p : PV} {v : Value} (hI : Inv w0 S0 c) (h : aQ c p v) (rW : a9 p = []) (u4 : bY (fz c.rows p) = true) : cP c.S c.w (fz c.rows p) v := by
 have := ET hI (ids := []) (by simp) h (by simp [rW]) u4
 exact cP.mono (fun b o h => by rcases h with h | ⟨id, gN, _⟩; exact h; cases gN) (fun _ _ _ => rfl) _ _ this
theorem y3 (hI : Inv w0 S0 c) {t e : TypeId} {n bb len : Nat} {z : List PV} (hE : E.ty t = .slice e n bb z) {parts : Array (Nat × Operand)} {ρ : Operand → PV} {vρ : Operand → Value} (hρ : ∀ x, aK c (ρ x) (vρ x))
  {els : List (List PV)} (yW : fW n 0 (parts.toList.map fun x => (x.1, ρ x.2)) = some els) (hlen : len = els.length) (hsm : len ≤ 4096) (hn : n ≤ 4096)
  (u4 : ∀ e ∈ els, ∀ p ∈ e, bY (fz c.rows p) = true ∧ gV c.rows p) (rW : ∀ e ∈ els, ∀ p ∈ e, a9 p = []) :
  ∃ v' c', (Instr.buildSlice t len (parts.map fun (i, x) => (i, vρ x))).run E.P c.w = .ok v' c'.w ∧ c'.rows = c.rows ∧ c'.used = c.used ∧ Inv w0 S0 c' ∧ rS c c' ∧ aK c' (.i3 (els.map fun e => e.map (fz c.rows))) v' := by
 obtain ⟨hu, hnp, EW, i, zv, hi, hz, hs, _, L5, _⟩ := eM hE
 obtain ⟨g1, g2, g3⟩ := mN yW
 have PT : parts.size = els.length := by rw [g1]; simp
 have asd : zv.cells.size = n := by rw [← EW, ← L5]; simp
 have C0 : ∀ j (x : Nat × Value), ((parts.map fun (i, x) => (i, vρ x)).toList)[j]? = some x → x.1 = 0 + j ∧ ∃ e, els[j]? = some e ∧ bB (aQ c) e x.2.cells.toList ∧ ∀ u ∈ x.2.cells.toList, u.oneCell' = true := by
  intro j x hx
  simp at hx
  obtain ⟨a, b, fU, rfl⟩ := hx
  obtain ⟨q1, e, q2, q3⟩ := g3 j (a, ρ b) (by simp; exact ⟨a, b, fU, rfl, rfl⟩)
  have q4 := k8 (hρ b) q3 (fun q hq => (u4 e (List.mem_of_getElem? q2) q hq).2)
  exact ⟨q1, e, q2, q4.1, q4.2⟩
 obtain ⟨bZ, f1, f2⟩ := yZ (n := n) (parts.map fun (i, x) => (i, vρ x)).toList 0 ((Array.range (len * n)).map (zv.cells[· % zv.cells.size]!)) (fun j x hx => by
  obtain ⟨q1, e, q2, q3, _⟩ := C0 j x hx
  refine ⟨q1, ?_⟩
  have := q3.length
  rw [g2 e (List.mem_of_getElem? q2)] at this
  simpa using this.symm) (by simp [PT, hlen])
 simp only [Nat.zero_mul, List.take_zero, List.nil_append] at f2
 have i5 : (Instr.buildSlice t len (parts.map fun (i, x) => (i, vρ x))).run E.P c.w = .ok (.slice (some ⟨c.w.heap.size, 0, none⟩) len len) (c.w.alloc (.cells bZ e)) := by
  have hbound : ¬ (16777216 < len * n) := by
   have : len * n ≤ 4096 * 4096 := Nat.mul_le_mul hsm hn
   omega
  by_cases h0 : len * n = 0
  ·have wH : len = 0 := by
    rcases Nat.mul_eq_zero.1 h0 with h | h
    ·exact h
    ·omega
   have WM : parts = #[] := Array.eq_empty_of_size_eq_zero (by omega)
   subst WM
   subst wH
   simp [Instr.fill] at f1
   subst f1
   have LF : Array.range 0 = #[] := rfl
   simp [Instr.buildSlice, run_underlying hu, cU hi, newRow, Instr.fill, LF]
  ·have f1' : Instr.fill (fun i => some (i * n, n)) ((Array.range (len * n)).map (zv.cells[· % zv.cells.size]!)) (parts.toList.map fun x => (x.1, vρ x.2)) = some bZ := by simpa using f1
   simp only [Instr.buildSlice, Sem.run_bind, run_underlying hu, Result.andThen_ok, cU hi, hs]
   simp [h0, hbound, newRow, zeroValue, typeInfo, hi, hz, f1']
 obtain ⟨uR, hA⟩ := hI.asb (.cells bZ e)
 refine ⟨_, { c with w := c.w.alloc (.cells bZ e), S := fun b k => c.S b k ∨ b = c.w.heap.size }, i5, rfl, rfl, uR, hA, ?_⟩
 simp only [aK, aQ, cP]
 refine ⟨some ⟨c.w.heap.size, 0, none⟩, by rw [List.length_map, hlen], by rw [List.length_map, ← hlen]; simp [maxLen]; omega, .inr ⟨_, _, rfl, ?_⟩⟩
 refine mW (n := n) (by
  intro e' s0
  simp at s0
  obtain ⟨e1, he1, rfl⟩ := s0
  simpa using g2 e1 he1) fun k el hk => ?_
 simp at hk
 obtain ⟨e1, he1, rfl⟩ := hk
 refine iL fun j p hj => ?_
 simp at hj
 obtain ⟨q, hq, rfl⟩ := hj
 have hkl : k < els.length := (List.getElem?_eq_some_iff.1 he1).1
 obtain ⟨x, hx⟩ : ∃ x, ((parts.map fun (i, x) => (i, vρ x)).toList)[k]? = some x := ⟨_, List.getElem?_eq_getElem (by simp; omega)⟩
 obtain ⟨_, e2, q2, q3, q4⟩ := C0 k x hx
 rw [he1] at q2; cases q2
 obtain ⟨u, hu1, hu2⟩ := q3.get hq
 have amv : bZ.toList[k * n + j]? = some u := by
  have e3 : bZ.toList = ((parts.map fun (i, x) => (i, vρ x)).toList.map fun x => x.2.cells.toList).flatten := by rw [f2, List.flatMap_def]
  rw [e3]
  refine iM (n := n) (fun e he => ?_) (i := k) (e := x.2.cells.toList) (by rw [List.getElem?_map, hx]; rfl) hu1
  simp only [List.mem_map] at he
  obtain ⟨y, hy, rfl⟩ := he
  obtain ⟨k', wC⟩ := List.getElem?_of_mem hy
  obtain ⟨_, e4, q5, q6, _⟩ := C0 k' y wC
  rw [← q6.length]; exact g2 e4 (List.mem_of_getElem? q5)
 refine ⟨u, ?_, .inr rfl, q4 u (List.mem_of_getElem? hu1), ?_⟩
 ·have := heap_alloc_new c.w (.cells bZ e)
  rw [cell_of_row _ _ _ _ _ _ this]
  simpa using amv
 ·exact cP.mono hA.S hA.w _ _ (WL hI hu2 (rW e1 (List.mem_of_getElem? he1) q (List.mem_of_getElem? hq)) (u4 e1 (List.mem_of_getElem? he1) q (List.mem_of_getElem? hq)).1)
end
section
variable {E : Env} {c : Cx} {w0 : World} {S0 : dF}
theorem k9 {P : Program} {g : FuncId} {fn : Func} {b : Code} (h1 : P.funcs[g]? = some fn) (h2 : fn.body = some b) (h3 : (fn.name == "runtime.NumGoroutine") = false) (args : Array Value) (w : World) :
  (callFunc g args).run P w = .ok (.enter g args) w := by
 simp only [callFunc, Sem.run_bind, program, Sem.run, Result.andThen_ok, h1, h2, h3]
 simp
theorem wI (hI : Inv w0 S0 c) {ids : List Nat} (hp : ∀ id ∈ ids, ∀ r, c.rows id = some r → ∀ e ∈ r.els, ∀ p ∈ e, bY p = true) {pf : PV} {vf : Value} {PU : List PV} {wJ : List Value}
  (hf : aK c pf vf) (fR : bB (aK c) PU wJ) (rW : ∀ p ∈ PU, ∀ id ∈ dG p, id ∈ ids) {v : PV} (h : wG E pf (PU.map (pz c.rows)) v) {K : Value → World → Prop}
  (hK : ∀ v' c', c'.rows = CZ c.rows ids → c'.used = c.used → rS c c' → Inv w0 S0 c' → aK c' v v' → K v' c'.w) :
  ∃ g cs, vf = .func (.func g) #[] cs ∧ (callFunc g (wJ.toArray ++ cs)).run E.P c.w = .ok (.enter g (wJ.toArray ++ cs)) c.w ∧
   Calls E.P g (wJ.toArray ++ cs) c.w fun e w' => ∃ v', e = .returned v' ∧ K v' w' := by
 unfold wG at h
 split at h
 ·rename_i g cD
  obtain ⟨rL, ⟨fn, b, h1, h2, h3⟩, MB⟩ := h
  simp only [aK, aQ, cP] at hf
  obtain ⟨cs, rfl, G8⟩ := hf
  refine ⟨g, cs.toArray, rfl, k9 h1 h2 h3 _ _, ?_⟩
  have HO := hI.freeze ids
  have dI : ∀ b o, L6 c ids b o → b < c.w.heap.size := fun b o hb => HO.lt (c := BT c ids) hb
  have fB : bK (L6 c ids) c.w (PU.map (pz c.rows) ++ cD) (wJ ++ cs) := by
   refine cI.2 (bB.append (bB.c7 (by simp [fR.length]) fun k p u uP hu => ?_) ?_)
   ·simp at uP
    obtain ⟨q, hq, rfl⟩ := uP
    obtain ⟨u', g1, g2⟩ := fR.get hq
    rw [hu] at g1; cases g1
    exact EU hI hp g2 (rW q (List.mem_of_getElem? hq)) (List.all_eq_true.1 rL _ (by simp; exact ⟨q, List.mem_of_getElem? hq, rfl⟩))
   ·exact (cI.1 G8).mono fun a b fU => cP.mono (fun _ _ h => .inl h) (fun _ _ _ => rfl) a b fU
  have := MB c.w (L6 c ids) (wJ ++ cs) dI fB
  rw [show (wJ ++ cs).toArray = wJ.toArray ++ cs.toArray by simp] at this
  refine this.mono ?_
  rintro e w' ⟨v', rfl, hb, S', g1, g2, g3⟩
  refine ⟨v', rfl, ?_⟩
  obtain ⟨hI2, hA2⟩ := HO.grow (c := BT c ids) hb g1 g2
  have hA : rS c { BT c ids with S := S', w := w' } := by
   have V1 := kQ c ids
   exact ⟨fun b o h => g1 b o (V1.S b o h), fun b o h => (hA2.w b o (V1.S b o h)).trans (V1.w b o h), fun _ h => h, V1.rows⟩
  exact hK v' { BT c ids with S := S', w := w' } rfl rfl hA hI2 (aK.i4 g3)
 ·exact h.elim
structure nS (w0 : World) (S0 : dF) (n : Nat) (G : Gs) (U : Nat → Prop) (f : Nat → PV) (rows : Rows) (a : Act) (w : World) : Prop where
 ex : ∃ c : Cx, c.w = w ∧ c.rows = rows ∧ (∀ v, c.used v → U v) ∧ Inv w0 S0 c ∧ (∀ s, aK c (f s) (a.tmps.getD s undef)) ∧ ∀ p ∈ G, aK c p.1 p.2
 size : a.tmps.size = n
 defers : a.defers = []
abbrev Rel (w0 : World) (S0 : dF) (n : Nat) (G : Gs) (σ : PS) (a : Act) (w : World) : Prop := nS w0 S0 n G (fun v => v < σ.clock) σ.f σ.rows a w
theorem nS.mono {w0 : World} {S0 : dF} {n : Nat} {G : Gs} {U U' : Nat → Prop} {f : Nat → PV} {rows : Rows} {a : Act} {w : World} (hU : ∀ v, U v → U' v) (h : nS w0 S0 n G U f rows a w) : nS w0 S0 n G U' f rows a w := by
 obtain ⟨⟨c, h1, h2, h3, h4⟩, h5, h6⟩ := h
 exact ⟨⟨c, h1, h2, fun v hv => hU v (h3 v hv), h4⟩, h5, h6⟩
theorem mX {n : Nat} {G : Gs} {U : Nat → Prop} {f : Nat → PV} {a : Act} {c' : Cx} {v : PV} {v' : Value} {d : Option Tmp} (hf : ∀ s, aK c (f s) (a.tmps.getD s undef)) (hG : ∀ p ∈ G, aK c p.1 p.2) (hn : a.tmps.size = n) (eN : a.defers = [])
  (hA : rS c c') (hI : Inv w0 S0 c') (hv : aK c' v v') (hd : ∀ t, d = some t → t < n) {f' : Nat → PV} {rows : Rows} (h1 : f' = put f d v) (h2 : rows = c'.rows) (h3 : ∀ v, c'.used v → U v) : nS w0 S0 n G U f' rows (a.put d v') c'.w := by
 refine ⟨⟨c', rfl, h2.symm, h3, hI, fun s => ?_, fun p hp => aK.rT hA _ _ (hG p hp)⟩, ?_, ?_⟩
 ·rw [h1]
  cases d with
  | none => exact aK.rT hA _ _ (hf s)
  | some t =>
   simp only [put, Act.put]
   by_cases hs : s = t
   ·subst hs
    have : s < a.tmps.size := by rw [hn]; exact hd s rfl
    simpa [this] using hv
   ·rw [if_neg hs]
    have := aK.rT hA _ _ (hf s)
    simpa [Array.getElem?_setIfInBounds_ne (Ne.symm hs)] using this
 ·cases d <;> simp [Act.put, hn]
 ·cases d <;> simp [Act.put, eN]
theorem lY {n : Nat} {G : Gs} {f : Nat → PV} {a : Act} {c' : Cx} {v : PV} {v' : Value} {d : Option Tmp} (hf : ∀ s, aK c (f s) (a.tmps.getD s undef)) (hG : ∀ p ∈ G, aK c p.1 p.2) (hn : a.tmps.size = n) (eN : a.defers = [])
  (hA : rS c c') (hI : Inv w0 S0 c') (hv : aK c' v v') (hd : ∀ t, d = some t → t < n) {σ : PS} (h1 : σ.f = put f d v) (h2 : σ.rows = c'.rows) (h3 : ∀ v, c'.used v → v < σ.clock) : Rel w0 S0 n G σ (a.put d v') c'.w :=
 mX hf hG hn eN hA hI hv hd h1 h2 h3
theorem WN {n : Nat} {G : Gs} {f : Nat → PV} {a : Act} {c' : Cx} {v : PV} {v' : Value} {d : Option Tmp} (hf : ∀ s, aK c' (f s) (a.tmps.getD s undef)) (hG : ∀ p ∈ G, aK c' p.1 p.2) (hn : a.tmps.size = n) (eN : a.defers = [])
  (hI : Inv w0 S0 c') (hv : aK c' v v') (hd : ∀ t, d = some t → t < n) {σ : PS} (h1 : σ.f = put f d v) (h2 : σ.rows = c'.rows) (h3 : ∀ v, c'.used v → v < σ.clock) : Rel w0 S0 n G σ (a.put d v') c'.w :=
 lY hf hG hn eN (rS.refl c') hI hv hd h1 h2 h3
theorem HP {o : Oper} {a : Act} {f : Nat → PV} (hI : Inv w0 S0 c) (hf : ∀ s, aK c (f s) (a.tmps.getD s undef)) {v : PV} {u : Option (Nat × Row)} (h : ys E o.op (aR f) c.rows v u)
  {K : Act → World → Prop} {Q : Exit → Act → World → Prop}
  (hK : ∀ v' c', c'.rows = fC c.rows u → c'.used = c.used → rS c c' → Inv w0 S0 c' → aK c' v v' → K (a.put o.dst v') c'.w) : o.wp E.P a c.w K Q := by
 have hρ := kP hf
 have plain : yv E o.op (aR f) c.rows v ∧ u = none → o.wp E.P a c.w K Q := by
  rintro ⟨hv, rfl⟩
  obtain ⟨v', h1, h2⟩ := ahd hI hf hv
  unfold Oper.wp
  rw [h1]
  exact hK v' c rfl rfl (rS.refl c) hI h2
 obtain ⟨dst, op, type, pos, after, guard⟩ := o
 simp only at h hK plain
 unfold ys at h
 split at h
 ·rename_i t p x
  obtain ⟨rfl, w', h1, h2, h3⟩ := MA hI (hρ p) (hρ x) h
  unfold Oper.wp
  have : (execOp a.eval { dst := dst, op := .store t p x, type := type, pos := pos, after := after, guard := guard }).run E.P c.w = .ok .skip w' := by simp [execOp, h1]
  rw [this]
  exact hK undef { c with w := w', rows := fC c.rows u } rfl rfl h3 h2 (by simp [aK, aQ])
 ·rename_i t len parts
  obtain ⟨h, rfl⟩ := h
  unfold L8 at h
  split at h
  ·rename_i e n bb z hE
   obtain ⟨els, h1, h2, h3, h4, h5, h6, rfl⟩ := h
   obtain ⟨v', c', g1, g2, g3, g4, g5, g6⟩ := y3 hI hE hρ h1 h2 h3 h4 h5 h6
   unfold Oper.wp
   have : (execOp a.eval { dst := dst, op := .buildSlice t len parts, type := type, pos := pos, after := after, guard := guard }).run E.P c.w = .ok (.value v') c'.w := by
    simp only [execOp, Sem.run_bind, g1, Result.andThen_ok, Sem.run_pure]
   rw [this]
   exact hK v' c' g2 g3 g5 g4 g6
  ·exact h.elim
 ·rename_i fo args ts
  obtain ⟨rfl, hc, rW⟩ := h
  have fR : bB (aK c) (args.toList.map fun x => aR f x) (args.map a.eval).toList := by
   refine bB.c7 (by simp) fun k p u hp hu => ?_
   simp at hp hu
   obtain ⟨x, hx, rfl⟩ := hp
   obtain ⟨y, hy, rfl⟩ := hu
   rw [hx] at hy; cases hy
   exact hρ x
  have hc' : wG E (aR f fo) ((args.toList.map fun x => aR f x).map (pz c.rows)) v := by rw [List.map_map]; exact hc
  obtain ⟨g, cs, h1, h2, h3⟩ := wI hI (ids := []) (by simp) (hρ fo) fR (by
   intro p hp id gN
   simp at hp
   obtain ⟨x, hx, rfl⟩ := hp
   have : id ∈ args.toList.flatMap fun x => dG (aR f x) := by simp only [List.mem_flatMap]; exact ⟨x, by simpa using hx, gN⟩
   rw [rW] at this; exact this) hc' (K := fun v' w' => K (a.put dst v') w') (fun v' c' q1 q2 q3 q4 q5 => hK v' c' (by rw [q1]; funext j; simp [CZ, fC]) q2 q3 q4 q5)
  unfold Oper.wp
  have i5 : (execOp a.eval { dst := dst, op := .call { callee := .value fo, args := args, argTypes := ts }, type := type, pos := pos, after := after, guard := guard }).run E.P c.w = .ok (.enter g (args.map a.eval ++ cs)) c.w := by
   simp only [execOp, resolve, h1, Deferred.ofValue, Sem.run_bind, Sem.run_pure, Result.andThen_ok, invoke]
   simp only [Array.toArray_toList] at h2
   simpa only [Array.empty_append] using h2
  rw [i5]
  simp only [Array.toArray_toList] at h3
  exact h3.mono fun e w' ⟨v', he, hk⟩ => by subst he; exact hk
 ·exact plain h
end
def room : Nat := 140737488355328
def s8 (rows : Rows) (y : PV) (l : List (List PV)) : Prop :=
 match y with
 | .nil => l = []
 | .sl k => l = k
 | .i3 k => l = k
 | .own id ver off len => ∃ r, rows id = some r ∧ r.ver = ver ∧ l = (r.els.drop off).take len
 | _ => False
def dQ (rows : Rows) (ids : List Nat) : Prop := ∀ id ∈ ids, ∀ r, rows id = some r → ∀ e ∈ r.els, ∀ p ∈ e, bY p = true
def EX (K : PS → Prop) (σ : PS) (d : Option Tmp) (v : PV) (id : Nat) (e : TypeId) (n : Nat) (els : List (List PV)) : Prop :=
 K ⟨put σ.f d v, dJ σ.rows id (some ⟨σ.clock, e, n, els⟩), σ.clock + 1⟩
def EY (E : Env) (o : Oper) (t : TypeId) (x y : PV) (K : PS → Prop) (σ : PS) : Prop :=
 match E.ty t with
 | .slice e n b _ =>
  ∃ l, s8 σ.rows y l ∧ (∀ e ∈ l, e.length = n) ∧
  match x with
  | .nil => l.length ≤ room ∧ l.length * b ≤ room ∧ EX K σ o.dst (.own (o.dst.getD 0) σ.clock 0 l.length) (o.dst.getD 0) e n l
  | .own id ver off len => ∃ r, σ.rows id = some r ∧ r.ver = ver ∧ off = 0 ∧ len = r.els.length ∧ r.e = e ∧ r.size = n ∧ len + l.length ≤ room ∧ (len + l.length) * b ≤ room ∧
    EX K σ o.dst (.own id σ.clock 0 (len + l.length)) id e n (r.els ++ l)
  | .i3 l0 => (∀ e ∈ l0, e.length = n) ∧ (∀ e ∈ l, ∀ p ∈ e, bY p = true) ∧ l0.length + l.length ≤ room ∧ (l0.length + l.length) * b ≤ room ∧ K (σ.put o.dst (.sl (l0 ++ l)))
  | _ => False
 | _ => False
def C2 (K : Nat → (Nat → PV) → Rows → Prop) (ver : Nat) (f : Nat → PV) (rows : Rows) (d : Option Tmp) (v : PV) (id : Nat) (e : TypeId) (n : Nat) (els : List (List PV)) : Prop :=
 K 1 (put f d v) (dJ rows id (some ⟨ver, e, n, els⟩))
def mY (E : Env) (ver : Nat) (o : Oper) (t : TypeId) (x y : PV) (K : Nat → (Nat → PV) → Rows → Prop) (f : Nat → PV) (rows : Rows) : Prop :=
 match E.ty t with
 | .slice e n b _ =>
  ∃ l, s8 rows y l ∧ (∀ e ∈ l, e.length = n) ∧
  match x with
  | .nil => l.length ≤ room ∧ l.length * b ≤ room ∧ C2 K ver f rows o.dst (.own (o.dst.getD 0) ver 0 l.length) (o.dst.getD 0) e n l
  | .own id amw off len => ∃ r, rows id = some r ∧ r.ver = amw ∧ off = 0 ∧ len = r.els.length ∧ r.e = e ∧ r.size = n ∧ len + l.length ≤ room ∧ (len + l.length) * b ≤ room ∧
    C2 K ver f rows o.dst (.own id ver 0 (len + l.length)) id e n (r.els ++ l)
  | .i3 l0 => (∀ e ∈ l0, e.length = n) ∧ (∀ e ∈ l, ∀ p ∈ e, bY p = true) ∧ l0.length + l.length ≤ room ∧ (l0.length + l.length) * b ≤ room ∧ K 0 (put f o.dst (.sl (l0 ++ l))) rows
  | _ => False
 | _ => False
def WO : TI → Bool
 | .slice .. => true
 | _ => false
def dW (E : Env) (o : Oper) (K : PS → Prop) (σ : PS) : Prop :=
 match o.op with
 | .alloc t => (E.ty t).known = true ∧ EX K σ o.dst (.ptr (o.dst.getD 0) σ.clock 0 0) (o.dst.getD 0) t (E.ty t).size [(E.ty t).zero]
 | .box t x => (E.ty t).known = true ∧ ∃ l, bR (aR σ.f x) = some l ∧ (∀ q ∈ l, gV σ.rows q) ∧ l.length = (E.ty t).size ∧ EX K σ o.dst (.ptr (o.dst.getD 0) σ.clock 0 0) (o.dst.getD 0) t (E.ty t).size [l]
 | .makeSlice t l c =>
  match E.ty t, aR σ.f l, aR σ.f c with
  | .slice e n b z, .int _ x, .int _ y => 0 ≤ x ∧ x ≤ y ∧ y.toNat ≤ room ∧ y.toNat * b ≤ room ∧ EX K σ o.dst (.own (o.dst.getD 0) σ.clock 0 x.toNat) (o.dst.getD 0) e n (List.replicate x.toNat z)
  | _, _, _ => False
 | .call { callee := .builtin .append, args := ⟨[x, y]⟩, argTypes := ⟨[t, t2]⟩ } => (t2 = t ∨ WO (E.ty t2) = true) ∧ EY E o t (aR σ.f x) (aR σ.f y) K σ
 | .call { callee := .builtin .copy, args := ⟨[x, y]⟩, argTypes := ⟨[t, _]⟩ } =>
  match E.ty t, aR σ.f x with
  | .slice _ n _ _, .own id ver off len => n = 1 ∧ ∃ r, σ.rows id = some r ∧ r.ver = ver ∧ r.size = n ∧ off + len ≤ r.els.length ∧ 0 < len ∧ ∃ l, s8 σ.rows (aR σ.f y) l ∧ (∀ e ∈ l, e.length = n) ∧
    K ⟨put σ.f o.dst (.int .i64 (min l.length len)), dJ σ.rows id (some { r with els := r.els.take off ++ l.take len ++ r.els.drop (off + min l.length len) }), σ.clock⟩
  | _, _ => False
 | .call { callee := .value f, args := args, argTypes := _ } => if ahf E (aR σ.f f) = true then L9 E (aR σ.f f) (args.toList.map (aR σ.f)) σ.rows σ.clock (fun v rows clk => K ⟨put σ.f o.dst v, rows, clk⟩)
   else ∃ v, wG E (aR σ.f f) (args.toList.map fun x => pz σ.rows (aR σ.f x)) v ∧ dQ σ.rows (args.toList.flatMap fun x => dG (aR σ.f x)) ∧
   K ⟨put σ.f o.dst v, CZ σ.rows (args.toList.flatMap fun x => dG (aR σ.f x)), σ.clock⟩
 | .makeFunc (.func f) ⟨[]⟩ cD => (cD.toList.map fun x => pz σ.rows (aR σ.f x)).all fA = true ∧ dQ σ.rows (cD.toList.flatMap fun x => dG (aR σ.f x)) ∧
   K ⟨put σ.f o.dst (.fn f (cD.toList.map fun x => pz σ.rows (aR σ.f x))), CZ σ.rows (cD.toList.flatMap fun x => dG (aR σ.f x)), σ.clock⟩
 | _ => ∃ v u, ys E o.op (aR σ.f) σ.rows v u ∧ K ⟨put σ.f o.dst v, fC σ.rows u, σ.clock⟩
def mO (E : Env) (ver : Nat) (o : Oper) (K : Nat → (Nat → PV) → Rows → Prop) (f : Nat → PV) (rows : Rows) : Prop :=
 match o.op with
 | .alloc t => (E.ty t).known = true ∧ C2 K ver f rows o.dst (.ptr (o.dst.getD 0) ver 0 0) (o.dst.getD 0) t (E.ty t).size [(E.ty t).zero]
 | .box t x => (E.ty t).known = true ∧ ∃ l, bR (aR f x) = some l ∧ (∀ q ∈ l, gV rows q) ∧ l.length = (E.ty t).size ∧ C2 K ver f rows o.dst (.ptr (o.dst.getD 0) ver 0 0) (o.dst.getD 0) t (E.ty t).size [l]
 | .makeSlice t l c =>
  match E.ty t, aR f l, aR f c with
  | .slice e n b z, .int _ x, .int _ y => 0 ≤ x ∧ x ≤ y ∧ y.toNat ≤ room ∧ y.toNat * b ≤ room ∧ C2 K ver f rows o.dst (.own (o.dst.getD 0) ver 0 x.toNat) (o.dst.getD 0) e n (List.replicate x.toNat z)
  | _, _, _ => False
 | .call { callee := .builtin .append, args := ⟨[x, y]⟩, argTypes := ⟨[t, t2]⟩ } => (t2 = t ∨ WO (E.ty t2) = true) ∧ mY E ver o t (aR f x) (aR f y) K f rows
 | _ => False
theorem s9 {n : Nat} (h : n ≤ room) : n ≤ maxLen := by unfold room at h; simp only [maxLen]; omega
theorem jI {α : Type} {z : List α} : ∀ {x k : Nat} {a : α}, (List.replicate x z).flatten[k]? = some a → z[k % z.length]? = some a
 | 0, k, a, h => by simp at h
 | x + 1, k, a, h => by
  rw [List.replicate_succ, List.flatten_cons] at h
  rcases Nat.lt_or_ge k z.length with hk | hk
  ·rw [List.getElem?_append_left hk] at h
   rw [Nat.mod_eq_of_lt hk]; exact h
  ·rw [List.getElem?_append_right hk] at h
   have := jI h
   rw [← Nat.mod_eq_sub_mod hk] at this; exact this
section
variable {E : Env} {c : Cx} {w0 : World} {S0 : dF}
theorem rX (hI : Inv w0 S0 c) {y : PV} {vy : Value} {l : List (List PV)} {n : Nat} (hy : aK c y vy) (h : s8 c.rows y l) (hn : ∀ e ∈ l, e.length = n) :
  ∃ A cap news, vy = .slice A l.length cap ∧ news.length = l.length * n ∧ bB (aQ c) l.flatten news ∧ (∀ u ∈ news, u.oneCell' = true) ∧ (A = none → l = []) ∧
   ∀ a, A = some a → ∀ j u, news[j]? = some u → c.w.cell? (a.add j) = some u := by
 have fl : ∀ {l : List (List PV)}, (∀ e ∈ l, e.length = n) → l.flatten.length = l.length * n := by
  intro l
  induction l with
  | nil => intro _; simp
  | cons e l ih => intro h; rw [List.flatten_cons, List.length_append, ih (fun e he => h e (by simp [he])), h e (by simp), List.length_cons, Nat.add_mul]; omega
 have at_ : ∀ (g o cap : Nat), vy = .slice (some ⟨g, o, none⟩) l.length cap →
   (∀ k e, l[k]? = some e → ∀ j p, e[j]? = some p → ∃ v, c.w.cell? ⟨g, o + (k * n + j), none⟩ = some v ∧ v.oneCell' = true ∧ aQ c p v) → ∃ A cap news, vy = .slice A l.length cap ∧ news.length = l.length * n ∧ bB (aQ c) l.flatten news ∧ (∀ u ∈ news, u.oneCell' = true) ∧ (A = none → l = []) ∧
   ∀ a, A = some a → ∀ j u, news[j]? = some u → c.w.cell? (a.add j) = some u := by
  intro g o cap hv hc
  have cellAt : ∀ k, k < l.length * n → ∃ p v, l.flatten[k]? = some p ∧ c.w.cell? ⟨g, o + k, none⟩ = some v ∧ v.oneCell' = true ∧ aQ c p v := by
   intro k hk
   have hn0 : 0 < n := by
    rcases Nat.eq_zero_or_pos n with h | h
    ·subst h; simp at hk
    ·exact h
   have hq : k / n < l.length := (Nat.div_lt_iff_lt_mul hn0).2 hk
   have he := hn l[k / n] (List.getElem_mem hq)
   have hj : k % n < l[k / n].length := by rw [he]; exact Nat.mod_lt _ hn0
   have PW : k / n * n + k % n = k := by rw [Nat.mul_comm]; exact Nat.div_add_mod k n
   obtain ⟨v, h1, h2, h3⟩ := hc (k / n) _ (List.getElem?_eq_getElem hq) (k % n) _ (List.getElem?_eq_getElem hj)
   rw [PW] at h1
   have := iM hn (List.getElem?_eq_getElem hq) (List.getElem?_eq_getElem hj)
   rw [PW] at this
   exact ⟨_, v, this, h1, h2, h3⟩
  have hnl : ((List.range (l.length * n)).map fun k => (c.w.cell? ⟨g, o + k, none⟩).getD undef).length = l.length * n := by simp
  have WB : ∀ k u, ((List.range (l.length * n)).map fun k => (c.w.cell? ⟨g, o + k, none⟩).getD undef)[k]? = some u → k < l.length * n ∧ ∃ p, l.flatten[k]? = some p ∧ c.w.cell? ⟨g, o + k, none⟩ = some u ∧ u.oneCell' = true ∧ aQ c p u := by
   intro k u hu
   have hk : k < l.length * n := by rw [← hnl]; exact (List.getElem?_eq_some_iff.1 hu).1
   obtain ⟨p, v, h1, h2, h3, h4⟩ := cellAt k hk
   rw [List.getElem?_map, List.getElem?_range hk] at hu
   simp only [Option.map_some, h2, Option.getD_some, Option.some.injEq] at hu
   subst hu
   exact ⟨hk, p, h1, h2, h3, h4⟩
  refine ⟨some ⟨g, o, none⟩, cap, _, hv, hnl, bB.c7 (by rw [hnl, fl hn]) fun k p u hp hu => ?_, fun u hu => ?_, by simp, fun a ha j u hu => ?_⟩
  ·obtain ⟨_, p', h1, _, _, h4⟩ := WB k u hu
   rw [hp] at h1; cases h1; exact h4
  ·obtain ⟨k, hk⟩ := List.getElem?_of_mem hu
   exact (WB k u hk).2.choose_spec.2.2.1
  ·cases ha
   rw [gU]
   exact (WB j u hu).2.choose_spec.2.1
 have empty : ∀ A cap, vy = .slice A l.length cap → l = [] → ∃ A cap news, vy = .slice A l.length cap ∧ news.length = l.length * n ∧ bB (aQ c) l.flatten news ∧ (∀ u ∈ news, u.oneCell' = true) ∧ (A = none → l = []) ∧
   ∀ a, A = some a → ∀ j u, news[j]? = some u → c.w.cell? (a.add j) = some u := by
  rintro A cap hv rfl
  exact ⟨A, cap, [], hv, by simp, trivial, by simp, by simp, by simp⟩
 unfold s8 at h
 split at h
 ·subst h
  simp only [aK, aQ, cP] at hy
  exact empty none 0 (by rw [hy]; rfl) rfl
 ·subst h
  simp only [aK, aQ, cP] at hy
  obtain ⟨A, cap, rfl, _, _, hh⟩ := hy
  rcases hh with hh | ⟨g, o, rfl, hr⟩
  ·exact empty A cap rfl hh
  ·refine at_ g o cap rfl fun k e hk j p hj => ?_
   obtain ⟨v, h1, _, h3, h4⟩ := gI (iE hr hn hk) hj
   exact ⟨v, by rw [← Nat.add_assoc]; exact h1, h3, aQ.i4 h4⟩
 ·subst h
  simp only [aK, aQ, cP] at hy
  obtain ⟨A, rfl, _, hh⟩ := hy
  rcases hh with hh | ⟨g, o, rfl, hr⟩
  ·exact empty A _ rfl hh
  ·refine at_ g o _ rfl fun k e hk j p hj => ?_
   obtain ⟨v, h1, _, h3, h4⟩ := gI (iE hr hn hk) hj
   exact ⟨v, by rw [← Nat.add_assoc]; exact h1, h3, aQ.i4 h4⟩
 ·rename_i id ver off len
  obtain ⟨r, hr, jH, rfl⟩ := h
  simp only [aK, aQ] at hy
  obtain ⟨hle, hy⟩ := hy.2 r hr jH
  have L7 : ((r.els.drop off).take len).length = len := by simp; omega
  rw [← L7] at hy
  have mM : ∀ k e, ((r.els.drop off).take len)[k]? = some e → r.els[off + k]? = some e ∧ r.size = n := by
   intro k e hk
   have wC := hk
   rw [List.getElem?_take] at hk
   split at hk
   ·rw [List.getElem?_drop] at hk
    refine ⟨hk, ?_⟩
    rw [← hn e (List.mem_of_getElem? wC)]
    exact ((hI.row id r hr).len e (List.mem_of_getElem? hk)).symm
   ·cases hk
  rcases hy with ⟨h0, A, m, cap, hβ, rfl⟩ | ⟨kH, g, m, cap, A, hβ, hoc, rfl, ha⟩
  ·subst h0
   rcases Nat.eq_zero_or_pos len with h0 | h0
   ·exact empty A cap rfl (List.eq_nil_of_length_eq_zero (by rw [L7]; exact h0))
   ·obtain ⟨g, jN, o0⟩ := oZ hI hr (by omega)
    rw [hβ] at o0
    simp only [Value.slice.injEq] at o0
    obtain ⟨rfl, rfl, rfl⟩ := o0
    refine at_ g 0 _ rfl fun k e hk j p hj => ?_
    obtain ⟨hk2, hs⟩ := mM k e hk
    have := s6 hI hr hβ hk2 hj
    rw [hs] at this
    simpa using this
  ·rcases ha with ha | rfl
   ·exact empty _ _ rfl (List.eq_nil_of_length_eq_zero ha)
   ·refine at_ g _ _ rfl fun k e hk j p hj => ?_
    obtain ⟨hk2, hs⟩ := mM k e hk
    have := s6 hI hr hβ hk2 hj
    rw [hs] at this ⊢
    rw [show off * n + (k * n + j) = (off + k) * n + j by rw [Nat.add_mul]; omega]; exact this
 ·exact h.elim
end
section
variable {E : Env} {c : Cx} {w0 : World} {S0 : dF}
theorem u5 (hI : Inv w0 S0 c) {ver : Nat} (PY : ¬ c.used ver) (id : Nat) (e : TypeId) (size n cap : Nat) (els : List (List PV)) (cells : Array Value) (hn : els.length = n) (PO : n ≤ cap) (hcm : cap ≤ maxLen) (mM : cells.size = cap * size)
  (fB : bB (aQ c) els.flatten (cells.toList.take (n * size))) (gW : ∀ u ∈ cells.toList, u.oneCell' = true) (hlen : ∀ e ∈ els, e.length = size) (kH : 0 < size) :
  Inv w0 S0 { c with w := c.w.alloc (.cells cells e), β := dJ c.β id (.slice (some ⟨c.w.heap.size, 0, none⟩) n cap), rows := dJ c.rows id (some ⟨ver, e, size, els⟩), used := fun v => v = ver ∨ c.used v } ∧
  rS c { c with w := c.w.alloc (.cells cells e), β := dJ c.β id (.slice (some ⟨c.w.heap.size, 0, none⟩) n cap), rows := dJ c.rows id (some ⟨ver, e, size, els⟩), used := fun v => v = ver ∨ c.used v } := by
 refine hI.set (ob := none) (r' := ⟨ver, e, size, els⟩) (xs := cells.toList.take (n * size)) (World.grownBy_alloc c.w _ none) (by simp) ?_ fB (fun x hx => gW x (List.mem_of_mem_take hx)) hlen kH ?_ PY
 ·have hle : n * size ≤ cap * size := Nat.mul_le_mul_right _ PO
  refine ⟨by simp [hn]; omega, .inr ⟨c.w.heap.size, cap, cells, by simp [hn], hI.below.size, heap_alloc_new c.w _, by simp [hn]; exact PO, hcm, mM, by simp [hn]⟩⟩
 ·intro g hg
  simp [Value.ownBlock] at hg
  exact .inr (by omega)
theorem WQ {t : TypeId} {n : Nat} {z : List PV} (h : kI E.P t n z) : ∃ i v, E.P.info? t = some i ∧ i.zero = some v ∧ i.size = n ∧ bB (aQ c) z v.cells.toList ∧ v.cells.size = n ∧ ∀ u ∈ v.cells.toList, u.oneCell' = true := by
 obtain ⟨i, v, h1, h2, h3, h4, h5⟩ := h.ok
 have hl : v.cells.size = n := by rw [← h.len, ← h4]; simp
 refine ⟨i, v, h1, h2, h3, ?_, hl, fun u hu => (Array.all_eq_true_iff_forall_mem.1 h5) u (by simpa using hu)⟩
 rw [← h4]
 refine bB.c7 (by simp) fun k a b ha hb => ?_
 simp at ha
 obtain ⟨u, hu, rfl⟩ := ha
 have : v.cells.toList[k]? = some u := by simpa using hu
 rw [this] at hb; cases hb
 exact jM _
theorem j5 {c' : Cx} {id ver n : Nat} {r : Row} (hr : c'.rows id = some r) (hn : r.els.length = n) (hc : c'.used ver) {A : Option Addr} {cap : Nat} (hβ : c'.β id = .slice A n cap) : aK c' (.own id ver 0 n) (.slice A n cap) := by
 simp only [aK, aQ]
 refine ⟨hc, fun r' jL _ => ?_⟩
 rw [hr] at jL; cases jL
 exact ⟨by omega, .inl ⟨by first | rfl | trivial, A, n, cap, hβ, rfl⟩⟩
theorem WR {c' : Cx} {id ver : Nat} (hc : c'.used ver) {g n cap : Nat} (hβ : c'.β id = .slice (some ⟨g, 0, none⟩) n cap) : aK c' (.ptr id ver 0 0) (.pointer (some ⟨g, 0, none⟩)) := by
 simp only [aK, aQ]
 exact ⟨hc, fun r' _ _ => ⟨g, n, cap, hβ, by simp⟩⟩
theorem rM {z : Array Value} {N k : Nat} (hk : k < N) (hz : 0 < z.size) : (madeCells z N).toList[k]? = z.toList[k % z.size]? := by
 have hm : k % z.size < z.size := Nat.mod_lt _ hz
 simp [madeCells, hk, hm]
variable {n : Nat} {G : Gs}
theorem o8 {U : Nat → Prop} {ver : Nat} {f : Nat → PV} {rows : Rows} {a : Act} (hr : c.rows = rows) (eY : ∀ v, c.used v → U v) (hf : ∀ s, aK c (f s) (a.tmps.getD s undef)) (hG : ∀ p ∈ G, aK c p.1 p.2) (hn : a.tmps.size = n) (eN : a.defers = [])
  {K : (Nat → PV) → Rows → Prop} {d : Option Tmp} {v : PV} {id : Nat} {e : TypeId} {sz : Nat} {els : List (List PV)} (h : K (put f d v) (dJ rows id (some ⟨ver, e, sz, els⟩))) {v' : Value} {w' : World} {b' : Value}
  (hI : Inv w0 S0 { c with w := w', β := dJ c.β id b', rows := dJ c.rows id (some ⟨ver, e, sz, els⟩), used := fun v => v = ver ∨ c.used v })
  (hA : rS c { c with w := w', β := dJ c.β id b', rows := dJ c.rows id (some ⟨ver, e, sz, els⟩), used := fun v => v = ver ∨ c.used v })
  (hv : aK { c with w := w', β := dJ c.β id b', rows := dJ c.rows id (some ⟨ver, e, sz, els⟩), used := fun v => v = ver ∨ c.used v } v v') (hd : ∀ t, d = some t → t < n) :
  ∃ f' rows', K f' rows' ∧ nS w0 S0 n G (fun v => v = ver ∨ U v) f' rows' (a.put d v') w' := by
 refine ⟨_, _, h, ?_⟩
 have := mX (U := fun v => v = ver ∨ U v) (f' := put f d v) (rows := dJ rows id (some ⟨ver, e, sz, els⟩)) hf hG hn eN hA hI hv hd rfl (by simp [hr]) (fun v hv => hv.imp (fun h => h) (eY v))
 exact this
theorem MC (hI : Inv w0 S0 c) {w' : World} (hg : c.w.grownBy w' none) {e : TypeId} {sz : Nat} {v' : Value} {els : List (List PV)} {xs : List Value} (gP : w'.ownsRow c.w.heap.size e sz v' els.length xs)
  (fB : bB (cP c.S c.w) els.flatten xs) (gW : ∀ u ∈ xs, u.oneCell' = true) (hlen : ∀ e ∈ els, e.length = sz) :
  ∃ c', c'.w = w' ∧ c'.rows = c.rows ∧ c'.used = c.used ∧ Inv w0 S0 c' ∧ rS c c' ∧ aK c' (.sl els) v' := by
 have hb : Below c.w.heap.size c.w w' := ⟨hg.os, hg.tape, hg.output, hg.size, fun k hk => hg.block k hk (by simp)⟩
 obtain ⟨uR, hA⟩ := hI.grow (S' := fun b o => c.S b o ∨ (c.w.heap.size ≤ b ∧ b < w'.heap.size)) hb (fun _ _ h => .inl h) (fun _ _ h => h)
 refine ⟨{ c with S := fun b o => c.S b o ∨ (c.w.heap.size ≤ b ∧ b < w'.heap.size), w := w' }, rfl, rfl, rfl, uR, hA, ?_⟩
 simp only [aK, aQ, cP]
 rcases gP.2 with ⟨rfl, h0⟩ | ⟨g, cap, cur, rfl, WG, hh, PO, hcm, G8, HN⟩
 ·exact ⟨none, 0, by rw [h0], by omega, by simp [maxLen], .inl (List.eq_nil_of_length_eq_zero h0)⟩
 ·refine ⟨_, cap, rfl, PO, hcm, .inr ⟨g, 0, rfl, mW hlen fun k el hk => iL fun j p hj => ?_⟩⟩
  have hf := iM hlen hk hj
  obtain ⟨u, hu, hr⟩ := fB.get hf
  have dI : g < w'.heap.size := (Array.getElem?_eq_some_iff.1 hh).1
  have CY := gP.cells (g := g) rfl (k * sz + j) u hu
  rw [gU] at CY
  refine ⟨u, ?_, .inr ⟨WG, dI⟩, gW u (List.mem_of_getElem? hu), cP.mono hA.S hA.w _ _ hr⟩
  rw [show 0 + k * sz + j = 0 + (k * sz + j) by omega]; exact CY
theorem SW {P : Program} {w : World} {t t2 ty : TypeId} {e e2 : TypeId} {x y : Value} (hu : P.underlying t = some (.slice e)) (hu2 : P.underlying t2 = some (.slice e2)) :
  (Builtin.append_ #[t, t2] ty #[x, y]).run P w = (Builtin.append_ #[t, t] ty #[x, y]).run P w := by
 unfold Builtin.append_
 simp only [List.getElem?_toArray, List.getElem?_cons_zero, List.getElem?_cons_succ, Sem.run_bind, run_underlying hu, Result.andThen_ok]
 cases x <;> simp [run_underlying hu, run_underlying hu2]
theorem acg {E : Env} {t2 : TypeId} (h : WO (E.ty t2) = true) : ∃ e, E.P.underlying t2 = some (.slice e) := by
 cases hE : E.ty t2 with
 | slice e n b z => exact ⟨e, (eM hE).1⟩
 | _ => rw [hE] at h; cases h
theorem y4 {U : Nat → Prop} {ver : Nat} (PY : ¬ U ver) {o : Oper} {a : Act} {f : Nat → PV} {rows : Rows} {x y : Operand} {t t2 : TypeId} (hop : o.op = .call { callee := .builtin .append, args := ⟨[x, y]⟩, argTypes := ⟨[t, t2]⟩ }) (ht2 : t2 = t ∨ WO (E.ty t2) = true)
  (hI : Inv w0 S0 c) (hr : c.rows = rows) (eY : ∀ v, c.used v → U v) (hf : ∀ s, aK c (f s) (a.tmps.getD s undef)) (hG : ∀ p ∈ G, aK c p.1 p.2) (hn : a.tmps.size = n) (eN : a.defers = [])
  (hd : ∀ t, o.dst = some t → t < n) {K : Nat → (Nat → PV) → Rows → Prop} (h : mY E ver o t (aR f x) (aR f y) K f rows) {K' : Act → World → Prop} {Q : Exit → Act → World → Prop} (hK : ∀ i f' rows' a' w', K i f' rows' → nS w0 S0 n G (fun v => (i = 1 ∧ v = ver) ∨ U v) f' rows' a' w' → K' a' w') : o.wp E.P a c.w K' Q := by
 have hρ := kP hf
 have run : ∀ {v' : Value} {w' : World}, (Builtin.append_ #[t, t] o.type #[a.eval x, a.eval y]).run E.P c.w = .ok v' w' → K' (a.put o.dst v') w' → o.wp E.P a c.w K' Q := by
  intro v' w' h1 h2
  unfold Oper.wp
  have h1' : (Builtin.append_ #[t, t2] o.type #[a.eval x, a.eval y]).run E.P c.w = .ok v' w' := by
   rcases ht2 with rfl | ht2
   ·exact h1
   ·obtain ⟨e2, hu2⟩ := acg ht2
    have hsl : ∃ e, E.P.underlying t = some (.slice e) := by
     unfold mY at h
     split at h
     ·rename_i e n b z hE; exact ⟨e, (eM hE).1⟩
     ·exact h.elim
    obtain ⟨e, hu⟩ := hsl
    rw [SW hu hu2]; exact h1
  have : (execOp a.eval o).run E.P c.w = .ok (.value v') w' := by
   simp only [execOp, hop, resolve, invoke, builtin, Sem.run_bind, Sem.run_pure, Result.andThen_ok, List.map_toArray, List.map_cons, List.map_nil, h1']
  rw [this]
  exact h2
 unfold mY at h
 split at h
 ·rename_i e sz b z hE
  obtain ⟨l, hl, hlen, h⟩ := h
  obtain ⟨hu, kH, EW, i, zv, hi, hz, hs, hby, L5, _⟩ := eM hE
  have BU : zv.cells.size = sz := by rw [← EW, ← L5]; simp
  rw [← hr] at hl
  obtain ⟨A, cap, news, hvy, g1, g2, g3, g4, g5⟩ := rX hI (hρ y) hl hlen
  have main : ∀ (vx : Value) (k : Nat) (xs : List Value), c.w.ownsRow w0.heap.size e sz vx k xs → a.eval x = vx → k + l.length ≤ room → (k + l.length) * b ≤ room →
    ∃ v' w', (Builtin.append_ #[t, t] o.type #[a.eval x, a.eval y]).run E.P c.w = .ok v' w' ∧ w'.ownsRow w0.heap.size e sz v' (k + l.length) (xs ++ news) ∧ c.w.grownBy w' vx.ownBlock ∧ (v'.ownBlock = vx.ownBlock ∨ v'.ownBlock = some c.w.heap.size) := by
   intro vx k xs gP hvx EZ wK
   rw [hvx, hvy]
   cases A with
   | some ad =>
    obtain ⟨v', w', q1, q2, q3, _, q5⟩ := run_append_own_at (P := E.P) c.w w0.heap.size t o.type e i zv sz b hu hi hz hs hby BU kH vx k xs gP ad l.length cap news g1 (g5 ad rfl) g3 (s9 EZ) (by simpa [room] using wK) hI.below.size
    exact ⟨v', w', q1, q2, q3, q5⟩
   | none =>
    have wH := g4 rfl
    subst wH
    have hn0 : news = [] := List.eq_nil_of_length_eq_zero (by simpa using g1)
    subst hn0
    refine ⟨vx, c.w, ?_, by simpa using gP, ⟨rfl, rfl, rfl, Nat.le_refl _, fun _ _ _ => rfl⟩, .inl rfl⟩
    rcases gP.2 with ⟨rfl, rfl⟩ | ⟨g, jN, cur, rfl, _, _, PO, _⟩
    ·simp [Builtin.append_, run_underlying hu, Go.sizeOf, typeInfo, hi, Builtin.lenOf, Builtin.firstCells]
    ·simp [Builtin.append_, run_underlying hu, Go.sizeOf, typeInfo, hi, Builtin.lenOf, Builtin.firstCells, PO, storeCells]
  split at h
  ·-- amz nil
   rename_i heq
   obtain ⟨EZ, wK, h⟩ := h
   have hx := hρ x
   rw [heq] at hx
   simp only [aK, aQ, cP] at hx
   obtain ⟨v', w', q1, q2, q3, q4⟩ := main (.slice none 0 0) 0 [] (World.ownsRow_nil _ _ _ _) hx (by simpa using EZ) (by simpa using wK)
   simp only [Nat.zero_add, List.nil_append] at q2
   obtain ⟨uR, hA⟩ := hI.set (ob := none) (id := o.dst.getD 0) (r' := ⟨ver, e, sz, l⟩) (xs := news) q3 (by simp) q2 g2 g3 hlen kH (by
    intro g hg
    rcases q4 with q4 | q4
    ·rw [q4] at hg; simp [Value.ownBlock] at hg
    ·rw [q4] at hg; cases hg; exact .inr (Nat.le_refl _)) (fun hu => PY (eY _ hu))
   have hv : aK { c with w := w', β := dJ c.β (o.dst.getD 0) v', rows := dJ c.rows (o.dst.getD 0) (some ⟨ver, e, sz, l⟩), used := fun v => v = ver ∨ c.used v } (.own (o.dst.getD 0) ver 0 l.length) v' := by
    have WS : ∃ A' jN, v' = .slice A' l.length jN := by
     rcases q2.2 with ⟨rfl, h0⟩ | ⟨g, jN, cur, rfl, _⟩
     ·exact ⟨none, 0, by rw [h0]⟩
     ·exact ⟨_, jN, rfl⟩
    obtain ⟨A', jN, rfl⟩ := WS
    exact j5 (r := ⟨ver, e, sz, l⟩) (by simp [dJ]) rfl (Or.inl rfl) (by simp [dJ])
   obtain ⟨f', rows', hk, y5⟩ := o8 (K := K 1) hr eY hf hG hn eN h uR hA hv hd
   exact run q1 (hK 1 f' rows' _ _ hk (y5.mono fun v hv => hv.imp (fun h => ⟨rfl, h⟩) fun h => h))
  ·-- amz a row of its own
   rename_i id amw off len heq
   obtain ⟨r, hrr, jH, rfl, rfl, he, mM, EZ, wK, h⟩ := h
   rw [← hr] at hrr
   have hx := hρ x
   rw [heq] at hx
   simp only [aK, aQ] at hx
   obtain ⟨⟨xs, gP, fB, gW⟩, y6, hnS, _⟩ := hI.row id r hrr
   have hxv : a.eval x = c.β id := by
    rcases (hx.2 r hrr jH).2 with ⟨_, A', m, jN, hβ, hv⟩ | ⟨h0, _⟩
    ·have hm : m = r.els.length := by
      rw [hβ] at gP
      rcases gP.2 with ⟨h', h0⟩ | ⟨g, amA, cur, h', _⟩
      ·simp at h'; omega
      ·simp at h'; exact h'.2.1
     rw [hv, hβ, hm]
    ·omega
   rw [he, mM] at gP
   obtain ⟨v', w', q1, q2, q3, q4⟩ := main (c.β id) r.els.length xs gP hxv EZ wK
   obtain ⟨uR, hA⟩ := hI.set (ob := (c.β id).ownBlock) (id := id) (r' := ⟨ver, e, sz, r.els ++ l⟩) (xs := xs ++ news) q3 (by
    intro g hg
    refine ⟨(gP.lt g hg).1, fun o => hnS g o hg, fun iX r' jL sZ hb => sZ (hI.apart iX id r' r g jL hrr hb hg)⟩) (by simpa using q2) (by
     show bB (aQ c) (r.els ++ l).flatten _
     rw [List.flatten_append]; exact fB.append g2) (by
     intro u hu
     rcases List.mem_append.1 hu with hu | hu
     ·exact gW u hu
     ·exact g3 u hu) (by
     intro e' s0
     rcases List.mem_append.1 s0 with s0 | s0
     ·rw [y6 e' s0, mM]
     ·exact hlen e' s0) kH (by
     intro g hg
     rcases q4 with q4 | q4
     ·exact .inl (by rw [← q4]; exact hg)
     ·rw [q4] at hg; cases hg; exact .inr (Nat.le_refl _)) (fun hu => PY (eY _ hu))
   have hv : aK { c with w := w', β := dJ c.β id v', rows := dJ c.rows id (some ⟨ver, e, sz, r.els ++ l⟩), used := fun v => v = ver ∨ c.used v } (.own id ver 0 (r.els.length + l.length)) v' := by
    have WS : ∃ A' jN, v' = .slice A' (r.els.length + l.length) jN := by
     rcases q2.2 with ⟨rfl, h0⟩ | ⟨g, jN, cur, rfl, _⟩
     ·exact ⟨none, 0, by rw [h0]⟩
     ·exact ⟨_, jN, rfl⟩
    obtain ⟨A', jN, rfl⟩ := WS
    exact j5 (r := ⟨ver, e, sz, r.els ++ l⟩) (by simp [dJ]) (by simp) (Or.inl rfl) (by simp [dJ])
   obtain ⟨f', rows', hk, y5⟩ := o8 (K := K 1) hr eY hf hG hn eN h uR hA hv hd
   exact run q1 (hK 1 f' rows' _ _ hk (y5.mono fun v hv => hv.imp (fun h => ⟨rfl, h⟩) fun h => h))
  ·-- amz cells that stay, its capacity its length
   rename_i l0 heq
   obtain ⟨y6, PQ, EZ, wK, h⟩ := h
   have hx := hρ x
   rw [heq] at hx
   simp only [aK, aQ, cP] at hx
   obtain ⟨A0, hA0, LG, WT⟩ := hx
   have fin : ∀ {v' : Value} {w' : World}, (Builtin.append_ #[t, t] o.type #[a.eval x, a.eval y]).run E.P c.w = .ok v' w' →
     (∃ c', c'.w = w' ∧ c'.rows = c.rows ∧ c'.used = c.used ∧ Inv w0 S0 c' ∧ rS c c' ∧ aK c' (.sl (l0 ++ l)) v') → o.wp E.P a c.w K' Q := by
    rintro v' w' i5 ⟨c', rfl, h2, h3, h4, h5, h6⟩
    refine run i5 (hK 0 _ _ _ _ h ?_)
    exact mX hf hG hn eN h5 h4 h6 hd rfl (by rw [h2, hr]) (by rw [h3]; exact fun v hv => .inr (eY v hv))
   have ach : bB (cP c.S c.w) l.flatten news := by
    refine bB.c7 g2.length fun k p u hp hu => ?_
    obtain ⟨u', q1, q2⟩ := g2.get hp
    rw [hu] at q1; cases q1
    have rY := List.mem_of_getElem? hp
    rw [List.mem_flatten] at rY
    obtain ⟨e', s0, uP⟩ := rY
    exact q2.rep (PQ e' s0 p uP)
   by_cases wH : l = []
   ·subst wH
    refine fin (v' := .slice A0 l0.length l0.length) (w' := c.w) ?_ ⟨c, rfl, rfl, rfl, hI, rS.refl c, ?_⟩
    ·have hn0 : news = [] := List.eq_nil_of_length_eq_zero (by simpa using g1)
     subst hn0
     have hfc : (Builtin.firstCells i.size 0 (.slice A 0 cap)).run E.P c.w = .ok #[] c.w := by
      cases A with
      | none => simp [Builtin.firstCells]
      | some ad => simp [Builtin.firstCells, loadCells, loadCellsFrom]
     rw [hA0, hvy]
     cases A0 with
     | none => simp [Builtin.append_, run_underlying hu, Go.sizeOf, typeInfo, hi, Builtin.lenOf, hfc]
     | some ad0 => simp [Builtin.append_, run_underlying hu, Go.sizeOf, typeInfo, hi, Builtin.lenOf, hfc, storeCells]
    ·simp only [aK, aQ, cP, List.append_nil]
     exact ⟨A0, _, rfl, Nat.le_refl _, LG, WT⟩
   ·have amB : 0 < l.length := List.length_pos_iff.2 wH
    obtain ⟨ad, rfl⟩ : ∃ ad, A = some ad := by
     cases A with
     | none => exact absurd (g4 rfl) wH
     | some ad => exact ⟨ad, rfl⟩
    obtain ⟨A2, amC, aci, hvx, o1, o2, o3, o4, o5⟩ := rX (y := .i3 l0) (vy := a.eval x) (l := l0) hI (by simp only [aK, aQ, cP]; exact ⟨A0, hA0, LG, WT⟩) rfl y6
    rw [hA0] at hvx
    simp only [Value.slice.injEq] at hvx
    obtain ⟨rfl, _, rfl⟩ := hvx
    have acj : bB (cP c.S c.w) l0.flatten aci := by
     refine bB.c7 o2.length fun k p u hp hu => ?_
     have rY := List.mem_of_getElem? hp
     rcases WT with rfl | ⟨g, oo, rfl, hre⟩
     ·simp at hp
     ·have asg : l0.flatten.length = l0.length * sz := by rw [o2.length, o1]
      have hk : k < l0.length * sz := by rw [← asg]; exact (List.getElem?_eq_some_iff.1 hp).1
      have hq : k / sz < l0.length := (Nat.div_lt_iff_lt_mul kH).2 hk
      have nP := y6 l0[k / sz] (List.getElem_mem hq)
      have hj : k % sz < l0[k / sz].length := by rw [nP]; exact Nat.mod_lt _ kH
      have PW : k / sz * sz + k % sz = k := by rw [Nat.mul_comm]; exact Nat.div_add_mod k sz
      have hfg := iM y6 (List.getElem?_eq_getElem hq) (List.getElem?_eq_getElem hj)
      rw [PW, hp] at hfg
      cases hfg
      obtain ⟨u', r1, _, _, r4⟩ := gI (iE hre y6 (List.getElem?_eq_getElem hq)) (List.getElem?_eq_getElem hj)
      have := o5 _ rfl k u hu
      rw [gU] at this
      rw [show oo + k / sz * sz + k % sz = oo + k by omega, this] at r1
      cases r1; exact r4
    have grow : ∃ v' w', (Builtin.append_ #[t, t] o.type #[a.eval x, a.eval y]).run E.P c.w = .ok v' w' ∧ w'.ownsRow c.w.heap.size e sz v' (l0.length + l.length) (aci ++ news) ∧ c.w.grownBy w' none := by
     rw [hA0, hvy]
     cases A0 with
     | some ad0 => exact run_append_arg_grows (P := E.P) c.w t o.type e i zv sz b hu hi hz hs hby BU kH ad0 l0.length l0.length aci o1 (o5 ad0 rfl) ad l.length cap news g1 (g5 ad rfl) (by omega) (s9 EZ) (by simpa [room] using wK)
     | none =>
      have ash := o4 rfl
      subst ash
      have ho0 : aci = [] := List.eq_nil_of_length_eq_zero (by simpa using o1)
      subst ho0
      obtain ⟨v', w', q1, q2, q3, _, q5⟩ := run_append_own_at (P := E.P) c.w c.w.heap.size t o.type e i zv sz b hu hi hz hs hby BU kH (.slice none 0 0) 0 [] (World.ownsRow_nil _ _ _ _) ad l.length cap news g1 (g5 ad rfl) g3 (by simpa using s9 EZ) (by simpa [room] using wK) (Nat.le_refl _)
      exact ⟨v', w', q1, by simpa using q2, q3⟩
    obtain ⟨v', w', q1, q2, q3⟩ := grow
    refine fin q1 (MC hI q3 (els := l0 ++ l) (by simpa using q2) (by rw [List.flatten_append]; exact acj.append ach) (fun u hu => ?_) (fun e' s0 => ?_))
    ·rcases List.mem_append.1 hu with hu | hu
     ·exact o3 u hu
     ·exact g3 u hu
    ·rcases List.mem_append.1 s0 with s0 | s0
     ·exact y6 e' s0
     ·exact hlen e' s0
  ·exact h.elim
 ·exact h.elim
end
section
variable {E : Env} {w0 : World} {S0 : dF} {n : Nat} {G : Gs}
theorem E0 {P : Program} (w : World) (dT sT ty elem : TypeId) (g o ack amD : Nat) (A : Option Addr) (acm amE : Nat) (cur : Array Value) (t : TypeId) (cs : List Value)
  (hu : P.underlying dT = some (.slice elem)) (hs : (P.info? elem).map (·.size) = some 1)
  (hg : w.heap[g]? = some (.cells cur t (0, 0))) (hn : cs.length = Nat.min acm ack)
  (asi : ∀ a, A = some a → ∀ j v, cs[j]? = some v → w.cell? (a.add j) = some v) (hA : A = none → cs = []) (ahg : o + cs.length ≤ cur.size) (h1 : ∀ v ∈ cs, v.oneCell' = true) :
  (Builtin.copy_ #[dT, sT] ty #[.slice (some ⟨g, o, none⟩) ack amD, .slice A acm amE]).run P w =
   .ok (goInt cs.length) (w.setRow g (cur.toList.take o ++ cs ++ cur.toList.drop (o + cs.length)).toArray) := by
 cases A with
 | some a => exact run_copy_row P w dT sT ty elem g o ack amD a acm amE cur t cs hu hs hg hn (asi a rfl) ahg h1
 | none =>
  have := hA rfl
  subst this
  cases hq : P.info? elem with
  | none => simp [hq] at hs
  | some i =>
   have wL : Nat.min acm ack = 0 := by simpa using hn.symm
   have amF := setRow_self w g cur t (0, 0) hg
   simp [Builtin.copy_, run_underlying hu, Builtin.lenOf, Builtin.firstCells, Go.sizeOf, typeInfo, hq, wL, storeCells, List.take_append_drop, amF]
theorem tA {U : Nat → Prop} {ver : Nat} (PY : ¬ U ver) {o : Oper} {a : Act} {w : World} {f : Nat → PV} {rows : Rows} {K : Nat → (Nat → PV) → Rows → Prop} (h : mO E ver o K f rows) (hR : nS w0 S0 n G U f rows a w) (hd : ∀ t, o.dst = some t → t < n)
  {K' : Act → World → Prop} {Q : Exit → Act → World → Prop} (hK : ∀ i f' rows' a' w', K i f' rows' → nS w0 S0 n G (fun v => (i = 1 ∧ v = ver) ∨ U v) f' rows' a' w' → K' a' w') : o.wp E.P a w K' Q := by
 obtain ⟨⟨c, rfl, hr, eY, hI, hf, hG⟩, hn, eN⟩ := hR
 have hρ := kP hf
 have hfu : ¬ c.used ver := fun hu => PY (eY _ hu)
 have value : ∀ {v' : Value} {w' : World}, (execOp a.eval o).run E.P c.w = .ok (.value v') w' → K' (a.put o.dst v') w' → o.wp E.P a c.w K' Q := by
  intro v' w' h1 h2
  unfold Oper.wp
  rw [h1]
  exact h2
 have newVar : ∀ (t : TypeId) (l : List PV) (vx : Value), (E.ty t).known = true → bB (aQ c) l vx.cells.toList → (∀ u ∈ vx.cells.toList, u.oneCell' = true) → l.length = (E.ty t).size →
   C2 K ver f rows o.dst (.ptr (o.dst.getD 0) ver 0 0) (o.dst.getD 0) t (E.ty t).size [l] → (execOp a.eval o).run E.P c.w = .ok (.value (.pointer (some ⟨c.w.heap.size, 0, none⟩))) (c.w.alloc (.cells vx.cells t)) → o.wp E.P a c.w K' Q := by
  intro t l vx hk fB gW hlen hp i5
  have hz := (E.ok t).zero hk
  have mM : vx.cells.size = (E.ty t).size := by rw [← hlen, fB.length]; simp
  obtain ⟨uR, hA⟩ := u5 hI hfu (o.dst.getD 0) t (E.ty t).size 1 1 [l] vx.cells rfl (Nat.le_refl _) (by simp [maxLen]) (by omega) (by
   simp only [List.flatten_cons, List.flatten_nil, List.append_nil]
   rw [List.take_of_length_le (by simp [mM])]; exact fB) gW (by simpa using hlen) hz.pos
  obtain ⟨f', rows', wC, y5⟩ := o8 (K := K 1) hr eY hf hG hn eN hp uR hA (WR (Or.inl rfl) (g := c.w.heap.size) (n := 1) (cap := 1) (by simp [dJ])) hd
  exact value i5 (hK 1 f' rows' _ _ wC (y5.mono fun v hv => hv.imp (fun h => ⟨rfl, h⟩) fun h => h))
 obtain ⟨dst, op, type, pos, after, guard⟩ := o
 simp only at hd value newVar
 unfold mO at h
 simp only at h
 split at h
 ·-- alloc
  rename_i t
  obtain ⟨hk, h⟩ := h
  have hz := (E.ok t).zero hk
  obtain ⟨i, zv, h1, h2, h3, h4, h5, h6⟩ := WQ (c := c) hz
  exact newVar t (E.ty t).zero zv hk h4 h6 rfl h (by simp [execOp, Instr.alloc, zeroValue, typeInfo, h1, h2, Go.newVar, newRow])
 ·-- box
  rename_i t x
  obtain ⟨hk, l, hl, gW, hlen, h⟩ := h
  rw [← hr] at gW
  obtain ⟨g1, g2⟩ := k8 (hρ x) hl gW
  exact newVar t l (a.eval x) hk g1 g2 hlen h (by simp [execOp, Instr.box, Go.newVar, newRow])
 ·-- makeSlice
  rename_i t l cc
  split at h
  ·rename_i e sz b z k1 x k2 y hE hl hc
   obtain ⟨h0, uS, EZ, wK, h⟩ := h
   obtain ⟨hu, kH, EW, i, zv, hi, hz, hs, hby, L5, hzo⟩ := eM hE
   have g1 := hρ l
   have g2 := hρ cc
   rw [hl, b8] at g1
   rw [hc, b8] at g2
   have BU : zv.cells.size = sz := by rw [← EW, ← L5]; simp
   have ahk : (i.bytes : Int) * y ≤ 281474976710656 := by
    rw [hby]
    have h3 : ((y.toNat * b : Nat) : Int) ≤ room := by exact_mod_cast wK
    have h4 : ((y.toNat : Nat) : Int) = y := Int.toNat_of_nonneg (by omega)
    rw [Int.natCast_mul, h4] at h3
    simp only [room] at h3
    rw [Int.mul_comm]; omega
   have i5 := run_make (P := E.P) c.w t e i zv hu hi hz k1 k2 x y h0 uS ahk (by simp only [room] at EZ; omega)
   have WU : (execOp a.eval { dst := dst, op := .makeSlice t l cc, type := type, pos := pos, after := after, guard := guard }).run E.P c.w = .ok (.value (.slice (some ⟨c.w.heap.size, 0, none⟩) x.toNat y.toNat)) (c.w.alloc (.cells (madeCells zv.cells (y.toNat * i.size)) e)) := by
    simp [execOp, g1, g2, i5]
   have amG : bB (aQ c) z zv.cells.toList := by
    rw [← L5]
    refine bB.c7 (by simp) fun k p u hp hu => ?_
    simp at hp
    obtain ⟨q, hq, rfl⟩ := hp
    have : zv.cells.toList[k]? = some q := by simpa using hq
    rw [this] at hu; cases hu
    exact jM _
   have hle : x.toNat * sz ≤ y.toNat * sz := Nat.mul_le_mul_right _ (by omega)
   have hL : ((madeCells zv.cells (y.toNat * i.size)).toList.take (x.toNat * sz)).length = x.toNat * sz := by
    rw [List.length_take, Array.length_toList, size_madeCells, hs]; exact Nat.min_eq_left hle
   obtain ⟨uR, hA⟩ := u5 hI hfu (dst.getD 0) e sz x.toNat y.toNat (List.replicate x.toNat z) (madeCells zv.cells (y.toNat * i.size)) (by simp) (by omega) (s9 EZ) (by rw [size_madeCells, hs]) (by
    refine bB.c7 (by rw [hL]; simp [EW]) fun k p u hp hu => ?_
    have hk := (List.getElem?_eq_some_iff.1 hu).1
    rw [hL] at hk
    rw [List.getElem?_take, if_pos (by omega), rM (by rw [hs]; omega) (by omega)] at hu
    have uP := jI hp
    rw [EW, ← BU] at uP
    obtain ⟨u', q1, q2⟩ := amG.get uP
    rw [hu] at q1; cases q1; exact q2) (by
    intro u hu
    obtain ⟨k, hk⟩ := List.getElem?_of_mem hu
    have wC := (List.getElem?_eq_some_iff.1 hk).1
    simp [size_madeCells] at wC
    rw [rM wC (by omega)] at hk
    have := List.mem_of_getElem? hk
    exact (Array.all_eq_true_iff_forall_mem.1 hzo) u (by simpa using this)) (by
    intro e' s0
    rw [List.mem_replicate] at s0
    rw [s0.2, EW]) kH
   obtain ⟨f', rows', wC, y5⟩ := o8 (K := K 1) hr eY hf hG hn eN h uR hA (j5 (r := ⟨ver, e, sz, List.replicate x.toNat z⟩) (A := some ⟨c.w.heap.size, 0, none⟩) (cap := y.toNat) (by simp [dJ]) (by simp) (Or.inl rfl) (by simp [dJ])) hd
   exact value WU (hK 1 f' rows' _ _ wC (y5.mono fun v hv => hv.imp (fun h => ⟨rfl, h⟩) fun h => h))
  ·exact h.elim
 ·-- append
  rename_i x y t t2
  obtain ⟨ht2, h⟩ := h
  exact y4 PY rfl ht2 hI hr eY hf hG hn eN hd h hK
 ·exact h.elim
theorem wM {o : Oper} {a : Act} {w : World} {σ : PS} {K : PS → Prop} (h : dW E o K σ) (hR : Rel w0 S0 n G σ a w) (hd : ∀ t, o.dst = some t → t < n)
  {K' : Act → World → Prop} {Q : Exit → Act → World → Prop} (hK : ∀ σ' a' w', K σ' → Rel w0 S0 n G σ' a' w' → K' a' w') : o.wp E.P a w K' Q := by
 obtain ⟨⟨c, rfl, hr, eY, hI, hf, hG⟩, hn, eN⟩ := hR
 have hρ := kP hf
 have value : ∀ {v' : Value} {w' : World}, (execOp a.eval o).run E.P c.w = .ok (.value v') w' → K' (a.put o.dst v') w' → o.wp E.P a c.w K' Q := by
  intro v' w' h1 h2
  unfold Oper.wp
  rw [h1]
  exact h2
 have amH : (∃ v u, ys E o.op (aR σ.f) σ.rows v u ∧ K ⟨put σ.f o.dst v, fC σ.rows u, σ.clock⟩) → o.wp E.P a c.w K' Q := by
  rintro ⟨v, u, hy, hk⟩
  rw [← hr] at hy
  refine HP hI hf hy fun v' c' h1 h2 h3 h4 h5 => hK _ _ _ hk ?_
  exact lY hf hG hn eN h3 h4 h5 hd rfl (by simp [h1, hr]) (by rw [h2]; exact eY)
 have nw : mO E σ.clock o (fun i f r => K ⟨f, r, σ.clock + i⟩) σ.f σ.rows → o.wp E.P a c.w K' Q := fun hp =>
  tA (U := fun v => v < σ.clock) (Nat.lt_irrefl _) hp ⟨⟨c, rfl, hr, eY, hI, hf, hG⟩, hn, eN⟩ hd fun i f' rows' a' w' hk y5 => hK _ _ _ hk (y5.mono fun v hv => by
   show v < σ.clock + i
   rcases hv with ⟨rfl, rfl⟩ | hv
   ·omega
   ·have : v < σ.clock := hv
    omega)
 obtain ⟨dst, op, type, pos, after, guard⟩ := o
 simp only at hd value amH nw
 unfold dW at h
 simp only at h
 split at h
 ·-- alloc
  rename_i t
  exact nw (show mO E σ.clock _ _ σ.f σ.rows from h)
 ·-- box
  rename_i t x
  exact nw (show mO E σ.clock _ _ σ.f σ.rows from h)
 ·-- makeSlice
  rename_i t l cc
  refine nw (show mO E σ.clock _ _ σ.f σ.rows from ?_)
  unfold mO
  simp only
  split at h
  ·exact h
  ·exact h.elim
 ·-- append
  rename_i x y t t2
  obtain ⟨ht2, h⟩ := h
  refine nw (show mO E σ.clock _ _ σ.f σ.rows from ⟨ht2, ?_⟩)
  unfold EY at h
  unfold mY
  split at h
  ·obtain ⟨l, g1, g2, g3⟩ := h
   refine ⟨l, g1, g2, ?_⟩
   split at g3 <;> exact g3
  ·exact h
 ·-- copy
  rename_i x y t t2
  split at h
  ·rename_i e sz b z id ver off len hE hx
   obtain ⟨rfl, r, hrr, jH, mM, hle, amB, l, hl, hl1, h⟩ := h
   rw [← hr] at hrr hl
   have gx := hρ x
   rw [hx] at gx
   simp only [aK, aQ] at gx
   obtain ⟨_, gx⟩ := gx.2 r hrr jH
   obtain ⟨hu, kH, EW, i, zv, hi, hz, hs, hby, L5, hzo⟩ := eM hE
   obtain ⟨A, cap, news, hvy, g1, g2, g3, g4, g5⟩ := rX hI (hρ y) hl hl1
   obtain ⟨⟨xs, gP, fB, gW⟩, yW, hnS, _⟩ := hI.row id r hrr
   obtain ⟨g, jN, hβ⟩ := oZ hI hrr (by omega)
   obtain ⟨ahl, hvx⟩ : ∃ ahl, a.eval x = .slice (some ⟨g, off, none⟩) len ahl := by
    rcases gx with ⟨h0, A', m, amC, MD, hv⟩ | ⟨_, g2, m, amC, A', MD, _, hv, ha⟩
    ·rw [hβ] at MD
     simp only [Value.slice.injEq] at MD
     obtain ⟨rfl, _, _⟩ := MD
     exact ⟨_, by rw [hv, h0]⟩
    ·rw [hβ] at MD
     simp only [Value.slice.injEq, Option.some.injEq, Addr.mk.injEq, and_true] at MD
     obtain ⟨rfl, _, _⟩ := MD
     rcases ha with ha | ha
     ·omega
     ·exact ⟨_, by rw [hv, ha, mM, Nat.mul_one]⟩
   have amt := gP
   rw [hβ] at gP
   rcases gP.2 with ⟨h', _⟩ | ⟨g', amA, cur, h', WG, hg, PO, hcm, G8, HN⟩
   ·simp at h'
   ·simp only [Value.slice.injEq, Option.some.injEq, Addr.mk.injEq, and_true] at h'
    obtain ⟨rfl, _, rfl⟩ := h'
    rw [mM, Nat.mul_one] at G8 HN
    have hnl : news.length = l.length := by simpa using g1
    have E1 : (news.take len).length = Nat.min l.length len := by
     rw [List.length_take, hnl]; exact Nat.min_comm _ _
    have hml : Nat.min l.length len ≤ len := Nat.min_le_right _ _
    have i5 := E0 (P := E.P) c.w t t2 type e g off len ahl A l.length cap cur r.e (news.take len) hu (by simp [hi, hs]) hg E1
     (fun ad had j v hj => g5 ad had j v (by rw [List.getElem?_take] at hj; split at hj; exact hj; cases hj)) (fun hA => by
      have := g4 hA
      subst this
      have : news = [] := List.eq_nil_of_length_eq_zero (by simpa using hnl)
      simp [this]) (by rw [E1]; omega) (fun v hv => g3 v (List.mem_of_mem_take hv))
    have WU : (execOp a.eval { dst := dst, op := .call { callee := .builtin .copy, args := ⟨[x, y]⟩, argTypes := ⟨[t, t2]⟩ }, type := type, pos := pos, after := after, guard := guard }).run E.P c.w = .ok (.value (goInt (news.take len).length)) (c.w.setRow g (cur.toList.take off ++ news.take len ++ cur.toList.drop (off + (news.take len).length)).toArray) := by
     simp only [execOp, resolve, invoke, builtin, Sem.run_bind, Sem.run_pure, Result.andThen_ok, List.map_toArray, List.map_cons, List.map_nil, hvx, hvy, i5]
    have one : ∀ {l : List (List PV)}, (∀ e ∈ l, e.length = 1) → ∀ k, (l.take k).flatten = l.flatten.take k ∧ (l.drop k).flatten = l.flatten.drop k := by
     intro l
     induction l with
     | nil => intro _ k; simp
     | cons e l ih =>
      intro hh k
      have he := hh e (by simp)
      match e, he with
      | [p], _ =>
       cases k with
       | zero => simp
       | succ k =>
        have := ih (fun e he => hh e (by simp [he])) k
        simp [this.1, this.2]
    have PZ : ∀ e ∈ r.els, e.length = 1 := fun e he => by rw [yW e he, mM]
    have avn : r.els.flatten.length = r.els.length := by rw [fB.length, gP.1, mM, Nat.mul_one]
    have hlf : l.flatten.length = l.length := by rw [g2.length, hnl]
    have ae8 : min l.length len = Nat.min l.length len := rfl
    have WK : (c.w.setRow g (cur.toList.take off ++ news.take len ++ cur.toList.drop (off + (news.take len).length)).toArray).ownsRow w0.heap.size r.e r.size (c.β id) (r.els.take off ++ l.take len ++ r.els.drop (off + min l.length len)).length
      (xs.take off ++ news.take len ++ xs.drop (off + (news.take len).length)) := by
     have L7 : (r.els.take off ++ l.take len ++ r.els.drop (off + min l.length len)).length = r.els.length := by simp; omega
     have hxl : xs.length = r.els.length := by rw [gP.1, mM, Nat.mul_one]
     rw [hβ, L7]
     refine ⟨?_, .inr ⟨g, jN, _, rfl, WG, setRow_heap _ g cur _ r.e _ hg, PO, hcm, ?_, ?_⟩⟩
     ·rw [mM, Nat.mul_one]; simp [E1]; omega
     ·rw [mM, Nat.mul_one]; simp [E1]; omega
     ·rw [mM, Nat.mul_one, ← HN]
      have asa : cur.toList.length = jN := by simp [G8]
      simp only
      rw [List.take_append, List.take_append]
      have e1 : List.take r.els.length (cur.toList.take off) = cur.toList.take off := by rw [List.take_take, Nat.min_eq_right (by omega)]
      have e2 : List.take off (cur.toList.take r.els.length) = cur.toList.take off := by rw [List.take_take, Nat.min_eq_left (by omega)]
      rw [e1, e2]
      have e3 : (cur.toList.take off).length = off := by rw [List.length_take]; omega
      have e4 : List.take (r.els.length - off) (news.take len) = news.take len := List.take_of_length_le (by rw [E1]; omega)
      rw [e3, e4]
      congr 1
      rw [List.length_append, e3, List.drop_take]
    have o7 : c.w.grownBy (c.w.setRow g (cur.toList.take off ++ news.take len ++ cur.toList.drop (off + (news.take len).length)).toArray) (c.β id).ownBlock := by
     rw [hβ]
     exact ⟨rfl, rfl, rfl, by simp, fun k _ hk => setRow_other _ g k _ (fun e => hk (by simp [Value.ownBlock, e]))⟩
    obtain ⟨uR, hA⟩ := hI.dJ (r' := { r with els := r.els.take off ++ l.take len ++ r.els.drop (off + min l.length len) }) hrr o7 WK (by
     show bB (aQ c) (r.els.take off ++ l.take len ++ r.els.drop (off + min l.length len)).flatten _
     rw [List.flatten_append, List.flatten_append, (one PZ off).1, (one hl1 len).1, (one PZ _).2, ae8, ← E1]
     exact ((fB.take _).append (g2.take _)).append (fB.drop _)) (by
     intro y' B3
     simp only [List.mem_append] at B3
     rcases B3 with (B3 | B3) | B3
     ·exact gW y' (List.mem_of_mem_take B3)
     ·exact g3 y' (List.mem_of_mem_take B3)
     ·exact gW y' (List.mem_of_mem_drop B3)) (by
     intro e' s0
     simp only [List.mem_append] at s0
     rw [mM]
     rcases s0 with (s0 | s0) | s0
     ·exact PZ e' (List.mem_of_mem_take s0)
     ·exact hl1 e' (List.mem_of_mem_take s0)
     ·exact PZ e' (List.mem_of_mem_drop s0)) rfl rfl (by simp; omega)
    refine value WU (hK _ _ _ h ?_)
    exact lY hf hG hn eN hA uR (b8.2 (by
     have h9 := E1
     rw [← ae8] at h9
     simp only [goInt, h9]
     congr 1
     omega)) hd rfl (by simp [hr]) eY
  ·exact h.elim
 ·-- a call
  rename_i fo args ts
  have fR : bB (aK c) (args.toList.map fun x => aR σ.f x) (args.map a.eval).toList := by
   refine bB.c7 (by simp) fun k p u hp hu => ?_
   simp at hp hu
   obtain ⟨x, hx, rfl⟩ := hp
   obtain ⟨y, hy, rfl⟩ := hu
   rw [hx] at hy; cases hy
   exact hρ x
  split at h
  ·have hfo := hρ fo
   unfold L9 at h
   split at h
   ·rename_i g heq
    rw [heq] at hfo
    obtain ⟨R, ⟨⟨fn, b, h1, h2, h3⟩, MB⟩, hk⟩ := h
    simp only [aK, aQ, cP] at hfo
    obtain ⟨cs, hfv, G8⟩ := hfo
    simp only [bK] at G8
    subst G8
    have o9 := MB w0 S0 c _ (fun p => p ∈ G ∨ ∃ s, p = (σ.f s, a.tmps.getD s undef)) hI hr eY fR (by
     rintro p (hp | ⟨s, rfl⟩)
     ·exact hG p hp
     ·exact hf s)
    simp only [Array.toArray_toList] at o9
    unfold Oper.wp
    have i5 : (execOp a.eval { dst := dst, op := .call { callee := .value fo, args := args, argTypes := ts }, type := type, pos := pos, after := after, guard := guard }).run E.P c.w = .ok (.enter g (args.map a.eval)) c.w := by
     simp only [execOp, resolve, hfv, Deferred.ofValue, Sem.run_bind, Sem.run_pure, Result.andThen_ok, invoke]
     simpa using k9 h1 h2 h3 (args.map a.eval) c.w
    rw [i5]
    refine o9.mono ?_
    rintro e w' ⟨v', c', r, jP, rfl, rfl, uR, hG', j6, ahn, hv'⟩
    refine hK _ _ _ (hk _ _ _ j6) ?_
    exact WN (fun s => hG' (σ.f s, a.tmps.getD s undef) (.inr ⟨s, rfl⟩)) (fun p hp => hG' p (.inl hp)) hn eN uR hv' hd rfl rfl ahn
   ·exact h.elim
  obtain ⟨v, hc, hp, hk⟩ := h
  rw [← hr] at hc hp hk
  have hc' : wG E (aR σ.f fo) ((args.toList.map fun x => aR σ.f x).map (pz c.rows)) v := by rw [List.map_map]; exact hc
  obtain ⟨g, cs, h1, h2, h3⟩ := wI hI (ids := args.toList.flatMap fun x => dG (aR σ.f x)) hp (hρ fo) fR (by
   intro p hp id gN
   simp at hp
   obtain ⟨x, hx, rfl⟩ := hp
   simp only [List.mem_flatMap]; exact ⟨x, by simpa using hx, gN⟩) hc' (K := fun v' w' => K' (a.put dst v') w') (fun v' c' q1 q2 q3 q4 q5 => hK _ _ _ hk (lY hf hG hn eN q3 q4 q5 hd rfl (by simp [q1]) (by rw [q2]; exact eY)))
  unfold Oper.wp
  have i5 : (execOp a.eval { dst := dst, op := .call { callee := .value fo, args := args, argTypes := ts }, type := type, pos := pos, after := after, guard := guard }).run E.P c.w = .ok (.enter g (args.map a.eval ++ cs)) c.w := by
   simp only [execOp, resolve, h1, Deferred.ofValue, Sem.run_bind, Sem.run_pure, Result.andThen_ok, invoke]
   simp only [Array.toArray_toList] at h2
   simpa only [Array.empty_append] using h2
  rw [i5]
  simp only [Array.toArray_toList] at h3
  exact h3.mono fun e w' ⟨v', he, hk⟩ => by subst he; exact hk
 ·-- a closure
  rename_i g cD
  obtain ⟨rL, hp, hk⟩ := h
  rw [← hr] at rL hp hk
  have HO := hI.freeze (cD.toList.flatMap fun x => dG (aR σ.f x))
  refine value (v' := .func (.func g) #[] (cD.map a.eval)) (w' := c.w) (by simp [execOp, Instr.makeFunc]) (hK _ _ _ hk ?_)
  refine lY (c' := BT c (cD.toList.flatMap fun x => dG (aR σ.f x))) hf hG hn eN (kQ c _) HO ?_ hd rfl (by simp [BT]) eY
  simp only [aK, aQ, cP]
  refine ⟨(cD.map a.eval).toList, by rw [Array.toArray_toList], cI.2 (bB.c7 (by simp) fun k p u uP hu => ?_)⟩
  simp at uP hu
  obtain ⟨x, hx, rfl⟩ := uP
  obtain ⟨y, hy, rfl⟩ := hu
  rw [hx] at hy; cases hy
  have rY : x ∈ cD.toList := by simpa using Array.mem_of_getElem? hx
  exact EU hI hp (hρ x) (fun id gN => by simp only [List.mem_flatMap]; exact ⟨x, rY, gN⟩) (List.all_eq_true.1 rL _ (by simp; exact ⟨x, by simpa using rY, rfl⟩))
 ·exact amH h
end
def gQ (op : Op) (ρ : Operand → PV) : List Nat :=
 match op with
 | .load _ p => a9 (ρ p)
 | .fieldAddr _ x _ => a9 (ρ x)
 | .indexAddr _ x _ => a9 (ρ x)
 | .slice _ x _ _ _ => a9 (ρ x)
 | .store _ p x => a9 (ρ p) ++ ((bR (ρ x)).getD []).flatMap a9
 | .call { callee := .builtin .len, args := ⟨[x]⟩, argTypes := ⟨[_]⟩ } => a9 (ρ x)
 | .call { callee := .builtin .append, args := ⟨[x, y]⟩, argTypes := ⟨[_, _]⟩ } => a9 (ρ x) ++ a9 (ρ y)
 | .nilCheck x => a9 (ρ x)
 | _ => []
def i6 (ids : List Nat) (rows rows' : Rows) : Prop := ∀ id ∈ ids, ∀ r, rows id = some r → rows' id = some r
section
variable {E : Env}
theorem E2 {rows rows' : Rows} {p : PV} (h : a9 p = []) : fz rows p = fz rows' p := by cases p <;> simp_all [fz, a9]
theorem aco {rows rows' : Rows} {p : PV} (h : dG p = []) : pz rows p = pz rows' p := by
 cases p with
 | ag l =>
  simp only [dG, List.flatMap_eq_nil_iff] at h
  simp only [pz]
  congr 1
  exact List.map_congr_left fun q hq => E2 (h q hq)
 | _ => simp only [pz, dG] at h ⊢; exact E2 h
theorem E3 {rows rows' : Rows} {p : PV} (h : i6 (a9 p) rows rows') (ho : gV rows p) : gV rows' p := by
 cases p with
 | own id ver off len => obtain ⟨r, hr, hv⟩ := ho; exact ⟨r, h id (by simp [a9]) r hr, hv⟩
 | ptr id ver i j => obtain ⟨r, hr, hv⟩ := ho; exact ⟨r, h id (by simp [a9]) r hr, hv⟩
 | _ => exact ho
theorem SX {rows : Rows} {p : PV} (ho : gV rows p) : ∀ id ∈ a9 p, ∃ r, rows id = some r := by
 intro id gN
 cases p with
 | own iX ver off len => simp [a9] at gN; subst gN; obtain ⟨r, hr, _⟩ := ho; exact ⟨r, hr⟩
 | ptr iX ver i j => simp [a9] at gN; subst gN; obtain ⟨r, hr, _⟩ := ho; exact ⟨r, hr⟩
 | _ => simp [a9] at gN
theorem WV {t : TypeId} {rows rows' : Rows} {p v : PV} (h : i6 (a9 p) rows rows') (hy : rG E t rows p v) : rG E t rows' p v ∧ ∀ id ∈ a9 p, ∃ r, rows id = some r := by
 obtain ⟨hk, hy⟩ := hy
 cases p with
 | ptr id ver i j =>
  obtain ⟨r, hr, hh⟩ := hy
  exact ⟨⟨hk, r, h id (by simp [a9]) r hr, hh⟩, by simp [a9]; exact ⟨r, hr⟩⟩
 | rd l => exact ⟨⟨hk, hy⟩, by simp [a9]⟩
 | _ => exact hy.elim
theorem B4 {t : TypeId} {i : Nat} {rows rows' : Rows} {x v : PV} (h : i6 (a9 x) rows rows') (hy : eJ E t rows i x v) : eJ E t rows' i x v ∧ ∀ id ∈ a9 x, ∃ r, rows id = some r := by
 unfold eJ at *
 split at hy
 ·rename_i fs z hE
  obtain ⟨o, n, b, hf, hy⟩ := hy
  cases x with
  | ptr id ver a j =>
   obtain ⟨⟨r, hr, hv⟩, hh⟩ := hy
   exact ⟨⟨o, n, b, hf, ⟨r, h id (by simp [a9]) r hr, hv⟩, hh⟩, by simp [a9]; exact ⟨r, hr⟩⟩
  | rd l => exact ⟨⟨o, n, b, hf, hy⟩, by simp [a9]⟩
  | _ => exact hy.elim
 ·exact hy.elim
theorem B5 {t : TypeId} {rows rows' : Rows} {x ix v : PV} (h : i6 (a9 x) rows rows') (hy : eK E t rows x ix v) : eK E t rows' x ix v ∧ ∀ id ∈ a9 x, ∃ r, rows id = some r := by
 unfold eK at *
 split at hy
 ·split at hy
  ·obtain ⟨h0, hy⟩ := hy
   cases x with
   | own id ver off len =>
    obtain ⟨r, hr, hh⟩ := hy
    exact ⟨⟨h0, r, h id (by simp [a9]) r hr, hh⟩, by simp [a9]; exact ⟨r, hr⟩⟩
   | sl l => exact ⟨⟨h0, hy⟩, by simp [a9]⟩
   | i3 l => exact ⟨⟨h0, hy⟩, by simp [a9]⟩
   | _ => exact hy.elim
  ·exact hy.elim
 ·split at hy
  ·obtain ⟨h0, hy⟩ := hy
   cases x with
   | ptr id ver a j =>
    obtain ⟨⟨r, hr, hv⟩, hh⟩ := hy
    exact ⟨⟨h0, ⟨r, h id (by simp [a9]) r hr, hv⟩, hh⟩, by simp [a9]; exact ⟨r, hr⟩⟩
   | rd l => exact ⟨⟨h0, hy⟩, by simp [a9]⟩
   | _ => exact hy.elim
  ·exact hy.elim
 ·exact hy.elim
theorem SY {t : TypeId} {rows rows' : Rows} {x v : PV} {lo hi mx : Option PV} (h : i6 (a9 x) rows rows') (hy : mL E t rows x lo hi mx v) : mL E t rows' x lo hi mx v ∧ ∀ id ∈ a9 x, ∃ r, rows id = some r := by
 unfold mL at *
 split at hy
 ·cases x with
  | own id ver off len =>
   obtain ⟨r, hr, hh⟩ := hy
   exact ⟨⟨r, h id (by simp [a9]) r hr, hh⟩, by simp [a9]; exact ⟨r, hr⟩⟩
  | nil => exact ⟨hy, by simp [a9]⟩
  | sl l => exact ⟨hy, by simp [a9]⟩
  | i3 l => exact ⟨hy, by simp [a9]⟩
  | _ => exact hy.elim
 ·exact hy.elim
theorem acp {rows rows' : Rows} {x : PV} {n : Nat} (h : i6 (a9 x) rows rows') (hy : SP rows x n) : SP rows' x n ∧ ∀ id ∈ a9 x, ∃ r, rows id = some r := by
 unfold SP at *
 cases x with
 | own id ver off len =>
  obtain ⟨⟨r, hr, hv⟩, hh⟩ := hy
  exact ⟨⟨⟨r, h id (by simp [a9]) r hr, hv⟩, hh⟩, by simp [a9]; exact ⟨r, hr⟩⟩
 | nil => exact ⟨hy, by simp [a9]⟩
 | sl l => exact ⟨hy, by simp [a9]⟩
 | i3 l => exact ⟨hy, by simp [a9]⟩
 | _ => exact hy.elim
theorem acq {rows rows' : Rows} {x v : PV} (h : i6 (a9 x) rows rows') (hy : BX rows x v) : BX rows' x v ∧ ∀ id ∈ a9 x, ∃ r, rows id = some r := by
 unfold BX at *
 cases x with
 | ptr id ver i j =>
  obtain ⟨⟨r, hr, hv⟩, hh⟩ := hy
  exact ⟨⟨⟨r, h id (by simp [a9]) r hr, hv⟩, hh⟩, by simp [a9]; exact ⟨r, hr⟩⟩
 | rd l => exact ⟨hy, by simp [a9]⟩
 | _ => exact hy.elim
theorem SZ {t : TypeId} {rows rows' : Rows} {p x v : PV} {u : Option (Nat × Row)} (h : i6 (a9 p ++ ((bR x).getD []).flatMap a9) rows rows') (hy : o6 E t rows p x v u) :
  o6 E t rows' p x v u ∧ (∀ id ∈ a9 p ++ ((bR x).getD []).flatMap a9, ∃ r, rows id = some r) ∧ ∃ id r, u = some (id, r) ∧ id ∈ a9 p := by
 obtain ⟨hk, hv, hy⟩ := hy
 cases p with
 | ptr id ver i j =>
  obtain ⟨r, hr, jH, el, nP, l, hl, gW, hh1, hh2, hh3⟩ := hy
  rw [hl] at h ⊢
  simp only [Option.getD_some] at h ⊢
  refine ⟨⟨hk, hv, r, h id (by simp [a9]) r hr, jH, el, nP, l, hl, fun q hq => E3 (fun iX yX => h iX ?_) (gW q hq), hh1, hh2, hh3⟩, ?_, ?_⟩
  ·simp only [List.mem_append, List.mem_flatMap]; exact .inr ⟨q, hq, yX⟩
  ·intro iX yX
   simp only [List.mem_append, List.mem_flatMap] at yX
   rcases yX with yX | ⟨q, hq, yX⟩
   ·simp [a9] at yX; subst yX; exact ⟨r, hr⟩
   ·exact SX (gW q hq) iX yX
  ·exact ⟨id, _, hh3, by simp [a9]⟩
 | _ => exact hy.elim
theorem afa {op : Op} {ρ : Operand → PV} {rows rows' : Rows} {v : PV} {u : Option (Nat × Row)} (h : i6 (gQ op ρ) rows rows') (hy : ys E op ρ rows v u) :
  ys E op ρ rows' v u ∧ (∀ id ∈ gQ op ρ, ∃ r, rows id = some r) ∧ ∀ id r, u = some (id, r) → id ∈ gQ op ρ := by
 unfold ys at hy ⊢
 split at hy
 ·rename_i t p x
  obtain ⟨h1, h2, id, r, h3, h4⟩ := SZ h hy
  exact ⟨h1, h2, fun iX r' hu => by rw [h3] at hu; cases hu; simp only [gQ, List.mem_append]; exact .inl h4⟩
 ·rename_i t len parts
  obtain ⟨hy, rfl⟩ := hy
  unfold L8 at hy ⊢
  split at hy
  ·obtain ⟨els, h1, h2, h3, h4, h5, h6, rfl⟩ := hy
   have hfz : ∀ e ∈ els, ∀ p ∈ e, fz rows p = fz rows' p := fun e he p hp => E2 (h6 e he p hp)
   refine ⟨⟨⟨els, h1, h2, h3, h4, fun e he p hp => ⟨by rw [← hfz e he p hp]; exact (h5 e he p hp).1, E3 (by rw [h6 e he p hp]; intro id gN; cases gN) (h5 e he p hp).2⟩, h6, ?_⟩, rfl⟩, by simp [gQ], by simp⟩
   congr 1
   exact List.map_congr_left fun e he => List.map_congr_left fun p hp => hfz e he p hp
  ·exact hy.elim
 ·rename_i f args ts
  obtain ⟨rfl, h1, h2⟩ := hy
  refine ⟨⟨rfl, ?_, h2⟩, by simp [gQ], by simp⟩
  have : (args.toList.map fun x => pz rows (ρ x)) = args.toList.map fun x => pz rows' (ρ x) :=
   List.map_congr_left fun x hx => aco (List.flatMap_eq_nil_iff.1 h2 x hx)
  rw [← this]; exact h1
 ·obtain ⟨hy, rfl⟩ := hy
  suffices hs : yv E op ρ rows' v ∧ ∀ id ∈ gQ op ρ, ∃ r, rows id = some r from ⟨⟨hs.1, rfl⟩, hs.2, by simp⟩
  unfold yv at hy ⊢
  split at hy
  case h_8 => exact WV h hy
  case h_10 => exact B4 h hy
  case h_11 => exact B5 h hy
  case h_12 => exact SY h hy
  case h_16 =>
   simp only [gQ] at h ⊢
   unfold vY at hy ⊢
   split at hy
   ·obtain ⟨n, hn, hv⟩ := hy
    have := acp (rows' := rows') h hn
    exact ⟨⟨n, this.1, hv⟩, this.2⟩
   ·exact hy.elim
  case h_19 => exact acq h hy
  all_goals first
   | exact hy.elim
   | exact ⟨hy, by simp [gQ]⟩
end
end Pm
