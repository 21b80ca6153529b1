import Derived.Laws.CopyOwn
import Derived.ArgAppend
import Derived.Test.YtelhfbikiccfkaaGreatBaa
set_option linter.unusedSimpArgs false
set_option linter.unusedVariables false
namespace Pm
open Go Go.RowKit
def E3 (rows : Rows) (ids : List Nat) : Rows := fun j => if j ∈ ids then none else rows j
def OQ (c : Cx) (ids : List Nat) : dW := fun b o => c.S b o ∨ ∃ id ∈ ids, (∃ r, c.rows id = some r) ∧ (c.β id).ownBlock = some b
section
variable {E : Env} {c : Cx} {w0 : World} {S0 : dW}
def DU (c : Cx) (ids : List Nat) : Cx := { c with S := OQ c ids, rows := E3 c.rows ids }
theorem l9 (c : Cx) (ids : List Nat) : tF c (DU c ids) :=
 ⟨fun _ _ h => .inl h, fun _ _ _ => rfl, fun _ h => h, fun id r hr => by
  simp only [DU, E3] at hr ⊢
  split at hr
  ·cases hr
  ·exact .inr ⟨r, hr, rfl, rfl, rfl, by first | rfl | trivial⟩⟩
theorem Inv.freeze (hI : Inv w0 S0 c) (ids : List Nat) : Inv w0 S0 (DU c ids) := by
 have live : ∀ {k : Nat} {t : Row}, E3 c.rows ids k = some t → c.rows k = some t ∧ k ∉ ids := by
  intro k t h
  simp only [E3] at h
  split at h
  ·cases h
  ·rename_i hk; exact ⟨h, hk⟩
 have auw : ∀ {id : Nat} {r : Row} {g : Nat}, c.rows id = some r → (c.β id).ownBlock = some g → w0.heap.size ≤ g ∧ g < c.w.heap.size := by
  intro id r g hr hg
  obtain ⟨⟨ys, g1, _, _⟩, _⟩ := hI.row id r hr
  exact g1.lt g hg
 refine ⟨hI.below, fun b o h => .inl (hI.ext b o h), fun b o h => ?_, hI.lt0, fun id r hr => hI.clock id r (live hr).1, fun id r hr => ?_, fun i j r s g hr hs => hI.apart i j r s g (live hr).1 (live hs).1⟩
 ·rcases h with h | ⟨id, _, ⟨r, hr⟩, hb⟩
  ·exact hI.new b o h
  ·exact .inr (auw hr hb)
 ·obtain ⟨lA, hk⟩ := live hr
  obtain ⟨⟨ys, g1, g2, g3⟩, g4, g5, g6⟩ := hI.row id r lA
  refine ⟨⟨ys, g1, g2.mono (aQ.tG (l9 c ids)), g3⟩, g4, fun g o hg hS => ?_, g6⟩
  rcases hS with h | ⟨jL, AR, ⟨r', dP⟩, hb⟩
  ·exact g5 g o hg h
  ·have := hI.apart id jL r r' g lA dP hg hb
   subst this
   exact hk AR
theorem SN (hI : Inv w0 S0 c) {ids : List Nat} (hp : ∀ id ∈ ids, ∀ r, c.rows id = some r → ∀ e ∈ r.els, ∀ p ∈ e, cM p = true) {id : Nat} (iI : id ∈ ids) {r : Row} (hr : c.rows id = some r)
  {g n cap : Nat} (hβ : c.β id = .slice (some ⟨g, 0, none⟩) n cap) {i j : Nat} {el : List PV} {p : PV} (hi : r.els[i]? = some el) (hj : el[j]? = some p) :
  ∃ v, c.w.cell? ⟨g, i * r.size + j, none⟩ = some v ∧ OQ c ids g (i * r.size + j) ∧ v.oneCell' = true ∧ c9 (OQ c ids) c.w p v := by
 obtain ⟨v, h1, h2, h3⟩ := uW hI hr hβ hi hj
 refine ⟨v, h1, .inr ⟨id, iI, ⟨r, hr⟩, by simp [hβ, Value.ownBlock]⟩, h2, ?_⟩
 have h4 := h3.rep (hp id iI r hr el (List.mem_of_getElem? hi) p (List.mem_of_getElem? hj))
 exact c9.mono (fun _ _ h => .inl h) (fun _ _ _ => rfl) _ _ h4
theorem GZ (hI : Inv w0 S0 c) {ids : List Nat} (hp : ∀ id ∈ ids, ∀ r, c.rows id = some r → ∀ e ∈ r.els, ∀ p ∈ e, cM p = true) {p : PV} {v : Value} (h : aQ c p v) (tJ : ∀ id ∈ a9 p, id ∈ ids) (uZ : cM (fz c.rows p) = true) :
  c9 (OQ c ids) c.w (fz c.rows p) v := by
 have mono : ∀ q u, c9 c.S c.w q u → c9 (OQ c ids) c.w q u := fun q u => c9.mono (fun _ _ h => .inl h) (fun _ _ _ => rfl) q u
 cases p with
 | own id ver off len =>
  simp only [fz] at uZ ⊢
  have iI : id ∈ ids := tJ id (by simp [a9])
  cases hr : c.rows id with
  | none => simp [hr, cM] at uZ
  | some r =>
   simp only [hr] at uZ ⊢
   by_cases hv : r.ver = ver
   ·simp only [hv, if_true] at uZ ⊢
    simp only [aQ] at h
    obtain ⟨hle, h⟩ := h.2 r hr hv
    obtain ⟨⟨xs, iL, _, _⟩, hlen, _⟩ := hI.row id r hr
    have ad7 : ∀ A m cap, c.β id = .slice A m cap → r.els.length ≤ cap ∧ cap ≤ maxLen := by
     intro A m cap hβ
     rw [hβ] at iL
     rcases iL.2 with ⟨h', hz⟩ | ⟨g, kD, cur, h', _, _, SK, hm, _⟩
     ·simp at h'; exact ⟨by omega, by rw [h'.2.2]; simp⟩
     ·simp at h'; obtain ⟨_, _, rfl⟩ := h'; exact ⟨SK, hm⟩
    have DV : ((r.els.drop off).take len).length = len := by simp; omega
    have els : ∀ g n cap, c.β id = .slice (some ⟨g, 0, none⟩) n cap → fI (OQ c ids) c.w g (off * r.size) ((r.els.drop off).take len) := by
     intro g n cap hβ
     refine oF (n := r.size) (fun e he => hlen e (List.mem_of_mem_drop (List.mem_of_mem_take he))) fun k e hk => ?_
     rw [List.getElem?_take] at hk
     split at hk
     ·rw [List.getElem?_drop] at hk
      refine i6 fun j q hq => ?_
      have := SN hI hp iI hr hβ hk hq
      rw [show off * r.size + k * r.size + j = (off + k) * r.size + j by rw [Nat.add_mul]]; exact this
     ·cases hk
    simp only [c9]
    rw [DV]
    rcases h with ⟨rfl, A, n, cap, hβ, rfl⟩ | ⟨lS, g, n, cap, A, hβ, hoc, rfl, ha⟩
    ·obtain ⟨c1, c2⟩ := ad7 _ _ _ hβ
     refine ⟨A, cap, rfl, by omega, c2, ?_⟩
     rcases Nat.eq_zero_or_pos len with h0 | h0
     ·left; exact List.eq_nil_of_length_eq_zero (by rw [DV]; exact h0)
     ·right
      obtain ⟨g, kD, qE⟩ := qD hI hr (by omega)
      rw [hβ] at qE
      simp only [Value.slice.injEq] at qE
      obtain ⟨rfl, rfl, rfl⟩ := qE
      exact ⟨g, 0, rfl, by simpa using els g _ _ hβ⟩
    ·obtain ⟨c1, c2⟩ := ad7 _ _ _ hβ
     refine ⟨some A, cap - off, rfl, by omega, by omega, ?_⟩
     rcases ha with rfl | rfl
     ·left; exact List.eq_nil_of_length_eq_zero DV
     ·right; exact ⟨g, off * r.size, rfl, els g n cap hβ⟩
   ·simp [hv, cM] at uZ
 | ptr id ver i j =>
  simp only [fz] at uZ ⊢
  have iI : id ∈ ids := tJ id (by simp [a9])
  cases hr : c.rows id with
  | none => simp [hr, cM] at uZ
  | some r =>
   simp only [hr] at uZ ⊢
   by_cases hv : r.ver = ver
   ·simp only [hv, if_true] at uZ ⊢
    simp only [aQ] at h
    obtain ⟨g, n, cap, hβ, rfl⟩ := h.2 r hr hv
    simp only [c9]
    refine ⟨g, i * r.size + j, rfl, i6 fun k q hq => ?_⟩
    rw [List.getElem?_drop] at hq
    cases mF : r.els[i]? with
    | none => simp [List.getD, mF] at hq
    | some el =>
     have hq' : el[j + k]? = some q := by simpa [List.getD, mF] using hq
     have := SN hI hp iI hr hβ mF hq'
     rw [show i * r.size + j + k = i * r.size + (j + k) by omega]; exact this
   ·simp [hv, cM] at uZ
 | nil =>
  simp only [aQ, c9] at h
  subst h
  simp only [fz, c9]
  exact ⟨none, 0, rfl, by simp, by simp [maxLen], .inl (by first | rfl | trivial)⟩
 | jN l =>
  simp only [fz]
  have := mono _ _ (show c9 c.S c.w (.jN l) v by simpa only [aQ] using h)
  simp only [c9] at this ⊢
  obtain ⟨A, rfl, h1, h2⟩ := this
  exact ⟨A, l.length, rfl, Nat.le_refl _, h1, h2⟩
 | undef => simp [fz, cM] at uZ
 | _ => simp only [fz]; exact mono _ _ (by simpa only [aQ] using h)
theorem G0 (hI : Inv w0 S0 c) {ids : List Nat} (hp : ∀ id ∈ ids, ∀ r, c.rows id = some r → ∀ e ∈ r.els, ∀ p ∈ e, cM p = true) {p : PV} {v : Value} (h : aJ c p v) (tJ : ∀ id ∈ dX p, id ∈ ids) (uZ : fW (pz c.rows p) = true) :
  c9 (OQ c ids) c.w (pz c.rows p) v := by
 cases p with
 | ag l =>
  obtain ⟨vs, rfl, J2⟩ := h
  simp only [pz, fW] at uZ ⊢
  simp only [c9]
  refine ⟨vs, rfl, cU.2 (bB.dN (by simp [J2.length]) fun k q u hq hu => ?_)⟩
  simp at hq
  obtain ⟨q', hq', rfl⟩ := hq
  obtain ⟨u', h1, h2⟩ := J2.get hq'
  rw [hu] at h1; cases h1
  refine GZ hI hp h2 (fun id iI => tJ id ?_) (List.all_eq_true.1 uZ _ (by simp; exact ⟨q', List.mem_of_getElem? hq', rfl⟩))
  simp only [dX, List.mem_flatMap]
  exact ⟨q', List.mem_of_getElem? hq', iI⟩
 | _ =>
  simp only [pz] at uZ ⊢
  refine GZ hI hp (by simpa only [aJ] using h) (fun id iI => tJ id (by simpa only [dX] using iI)) ?_
  revert uZ
  simp only [fz]
  first
   | (intro uZ; simpa only [fW] using uZ)
   | (split
      · split
        · intro _; rfl
        · intro uZ; exact uZ
      · intro uZ; exact uZ)
end
theorem yB {α : Type} {n : Nat} : ∀ {els : List (List α)}, (∀ e ∈ els, e.length = n) → ∀ {i : Nat} {el : List α}, els[i]? = some el → ∀ (j : Nat) (l : List α), j + l.length ≤ el.length →
  (els.set i (el.take j ++ l ++ el.drop (j + l.length))).flatten = els.flatten.take (i * n + j) ++ l ++ els.flatten.drop (i * n + j + l.length)
 | [], _, _, _, h, _, _, _ => by simp at h
 | q :: els, hn, 0, el, h, j, l, hjl => by
  simp at h
  subst h
  simp only [List.set_cons_zero, List.flatten_cons, Nat.zero_mul, Nat.zero_add]
  rw [List.take_append_of_le_length (by omega), List.drop_append_of_le_length hjl]
  simp
 | q :: els, hn, i + 1, el, h, j, l, hjl => by
  have hq : q.length = n := hn q (by simp)
  have ih := yB (els := els) (n := n) (fun e he => hn e (by simp [he])) (i := i) (el := el) (by simpa using h) j l hjl
  simp only [List.set_cons_succ, List.flatten_cons, ih]
  have e1 : (i + 1) * n + j = q.length + (i * n + j) := by rw [hq, Nat.add_mul]; omega
  have e2 : (i + 1) * n + j + l.length = q.length + (i * n + j + l.length) := by omega
  rw [e1, show q.length + (i * n + j) + l.length = q.length + (i * n + j + l.length) by omega, List.take_length_add_append, List.drop_length_add_append]
  simp
def qF (E : Env) (t : TypeId) (rows : Rows) (p x v : PV) (u : Option (Nat × Row)) : Prop :=
 (E.ty t).known = true ∧ v = .undef ∧
 match p with
 | .ptr id ver i j => ∃ r, rows id = some r ∧ r.ver = ver ∧ ∃ el, r.els[i]? = some el ∧ ∃ l, bW x = some l ∧ (∀ q ∈ l, iQ rows q) ∧ l.length = (E.ty t).size ∧ j + l.length ≤ el.length ∧
   u = some (id, { r with els := r.els.set i (el.take j ++ l ++ el.drop (j + l.length)) })
 | _ => False
def gU (n : Nat) : Nat → List (Nat × PV) → Option (List (List PV))
 | _, [] => some []
 | k, (i, p) :: ps =>
  match bW p with
  | some l => if i = k ∧ l.length = n then (gU n (k + 1) ps).map (l :: ·) else none
  | none => none
def OR (t : TI) (rows : Rows) (len : Nat) (parts : List (Nat × PV)) (v : PV) : Prop :=
 match t with
 | .slice _ n _ _ => ∃ els, gU n 0 parts = some els ∧ len = els.length ∧ len ≤ 4096 ∧ n ≤ 4096 ∧ (∀ e ∈ els, ∀ p ∈ e, cM (fz rows p) = true ∧ iQ rows p) ∧ (∀ e ∈ els, ∀ p ∈ e, a9 p = []) ∧ v = .jN (els.map fun e => e.map (fz rows))
 | _ => False
def Gs := PV × Value → Prop
instance : Membership (PV × Value) Gs := ⟨fun G p => G p⟩
def Gs.none : Gs := fun _ => False
theorem Gs.J3 {p : PV × Value} : ¬ p ∈ Gs.none := id
def VT (P : Program) (f : FuncId) (args : List PV) (rows : Rows) (clk : Nat) (R : PV → Rows → Nat → Prop) : Prop :=
 (∃ fn c, P.funcs[f]? = some fn ∧ fn.body = some c ∧ (fn.name == "runtime.NumGoroutine") = false) ∧
 ∀ (w0 : World) (S0 : dW) (c : Cx) (vs : List Value) (G : Gs), Inv w0 S0 c → c.rows = rows → (∀ v, c.used v → v < clk) → bB (aJ c) args vs → (∀ p ∈ G, aJ c p.1 p.2) →
  Calls P f vs.toArray c.w fun e w' => ∃ v c' r kF, e = .returned v ∧ c'.w = w' ∧ Inv w0 S0 c' ∧ (∀ p ∈ G, aJ c' p.1 p.2) ∧ R r c'.rows kF ∧ (∀ v, c'.used v → v < kF) ∧ aJ c' r v
def ai1 (E : Env) : PV → Bool
 | .fn g _ => E.writes g
 | _ => false
def yC (P : Program) (g : FuncId) (gL : List PV) (rows : Rows) (clk : Nat) (K : PV → Rows → Nat → Prop) : Prop :=
 ∃ R, VT P g gL rows clk R ∧ ∀ r rows' kF, R r rows' kF → K r rows' kF
def OS (E : Env) (p : PV) (gL : List PV) (rows : Rows) (clk : Nat) (K : PV → Rows → Nat → Prop) : Prop :=
 match p with
 | .fn g [] => yC E.P g gL rows clk K
 | _ => False
def yD (E : Env) (f : PV) (args : List PV) (v : PV) : Prop :=
 match f with
 | .fn g b6 => (args.all fW = true) ∧ aG E.P g (args ++ b6) v
 | _ => False
def ys (E : Env) (op : Op) (ρ : Operand → PV) (rows : Rows) (v : PV) (u : Option (Nat × Row)) : Prop :=
 match op with
 | .store t p x => qF E t rows (ρ p) (ρ x) v u
 | .buildSlice t len parts => OR (E.ty t) rows len (parts.toList.map fun x => (x.1, ρ x.2)) v ∧ u = none
 | .call { callee := .value f, args := args, argTypes := _ } => u = none ∧ yD E (ρ f) (args.toList.map fun x => pz rows (ρ x)) v ∧ (args.toList.flatMap fun x => dX (ρ x)) = []
 | op => yv E op ρ rows v ∧ u = none
def gF (rows : Rows) : Option (Nat × Row) → Rows
 | none => rows
 | some (id, r) => dZ rows id (some r)
section
variable {E : Env} {c : Cx} {w0 : World} {S0 : dW}
theorem OT (hI : Inv w0 S0 c) {t : TypeId} {p x v : PV} {u : Option (Nat × Row)} {vp vx : Value} (hp : aJ c p vp) (hx : aJ c x vx) (h : qF E t c.rows p x v u) :
  v = .undef ∧ ∃ w', (Instr.storeAt t vp vx).run E.P c.w = .ok () w' ∧ Inv w0 S0 { c with w := w', rows := gF c.rows u } ∧ tF c { c with w := w', rows := gF c.rows u } := by
 obtain ⟨hk, rfl, h⟩ := h
 refine ⟨rfl, ?_⟩
 split at h
 ·rename_i id ver i j
  obtain ⟨r, hr, j6, el, mF, l, hl, iR, hlen, hjl, rfl⟩ := h
  simp only [aJ, aQ] at hp
  obtain ⟨g, n, cap, hβ, rfl⟩ := hp.2 r hr j6
  obtain ⟨⟨xs, iL, gE, agX⟩, AQ, hnS, lS⟩ := hI.row id r hr
  obtain ⟨u0, Y1⟩ := mK hx hl iR
  have OH : vx.cells.toList.length = l.length := u0.length.symm
  have aoy := iL
  rw [hβ] at iL
  rcases iL.2 with ⟨h', _⟩ | ⟨g', kD, cur, h', SJ, hg, SK, hcm, JR, J4⟩
  ·simp at h'
  ·simp only [Value.slice.injEq, Option.some.injEq, Addr.mk.injEq, and_true] at h'
   obtain ⟨rfl, rfl, rfl⟩ := h'
   have hi : i < r.els.length := (List.getElem?_eq_some_iff.1 mF).1
   have ZJ : el.length = r.size := AQ el (List.mem_of_getElem? mF)
   have hmul : i * r.size + r.size ≤ r.els.length * r.size := by rw [← Nat.succ_mul]; exact Nat.mul_le_mul_right _ hi
   have axK : r.els.length * r.size ≤ cap * r.size := Nat.mul_le_mul_right _ SK
   have ai2 : i * r.size + j + l.length ≤ r.els.length * r.size := by omega
   have kG := run_storeCells_at E.P g (i * r.size + j) r.e vx.cells.toList 0 cur c.w hg (by rw [OH]; omega) Y1
   obtain ⟨inf, _, YW, _, GS, _, _⟩ := ((E.ok t).zero hk).ok
   have jP : (Instr.storeAt t (.pointer (some ⟨g, i * r.size + j, none⟩)) vx).run E.P c.w = .ok () (c.w.setRow g (cur.toList.take (i * r.size + j) ++ vx.cells.toList ++ cur.toList.drop (i * r.size + j + l.length)).toArray) := by
    have oG : vx.cells.size = inf.size := by rw [GS, ← hlen, ← OH]; simp
    simp only [Instr.storeAt, Instr.sureAddr, Sem.run_bind, Sem.run_pure, Result.andThen_ok, storeVar, dF YW, oG]
    simp only [Nat.add_zero, OH] at kG
    simpa using kG
   refine ⟨_, jP, ?_⟩
   have ZK : (c.w.setRow g (cur.toList.take (i * r.size + j) ++ vx.cells.toList ++ cur.toList.drop (i * r.size + j + l.length)).toArray).ownsRow w0.heap.size r.e r.size (c.β id) (r.els.set i (el.take j ++ l ++ el.drop (j + l.length))).length
     (xs.take (i * r.size + j) ++ vx.cells.toList ++ xs.drop (i * r.size + j + l.length)) := by
    rw [hβ, List.length_set]
    refine ⟨?_, .inr ⟨g, cap, _, rfl, SJ, setRow_heap _ g cur _ r.e _ hg, SK, hcm, ?_, ?_⟩⟩
    ·have := iL.1
     simp [OH]; omega
    ·simp [OH]; omega
    ·rw [← J4]
     have auy : cur.toList.length = cap * r.size := by simp [JR]
     simp only
     rw [List.take_append, List.take_append]
     have e1 : List.take (r.els.length * r.size) (cur.toList.take (i * r.size + j)) = cur.toList.take (i * r.size + j) := by
      rw [List.take_take, Nat.min_eq_right (by omega)]
     have e2 : List.take (i * r.size + j) (cur.toList.take (r.els.length * r.size)) = cur.toList.take (i * r.size + j) := by
      rw [List.take_take, Nat.min_eq_left (by omega)]
     rw [e1, e2]
     have e3 : (cur.toList.take (i * r.size + j)).length = i * r.size + j := by rw [List.length_take]; omega
     rw [e3]
     have e4 : List.take (r.els.length * r.size - (i * r.size + j)) vx.cells.toList = vx.cells.toList := List.take_of_length_le (by rw [OH]; omega)
     rw [e4]
     congr 1
     rw [List.length_append, e3, OH, List.drop_take]
   have AS : bB (aQ c) (r.els.set i (el.take j ++ l ++ el.drop (j + l.length))).flatten (xs.take (i * r.size + j) ++ vx.cells.toList ++ xs.drop (i * r.size + j + l.length)) := by
    rw [yB AQ mF j l hjl]
    exact ((gE.take _).append u0).append (gE.drop _)
   have n4 : c.w.grownBy (c.w.setRow g (cur.toList.take (i * r.size + j) ++ vx.cells.toList ++ cur.toList.drop (i * r.size + j + l.length)).toArray) (c.β id).ownBlock := by
    rw [hβ]
    exact ⟨rfl, rfl, rfl, by simp, fun k _ hk => setRow_other _ g k _ (fun e => hk (by simp [Value.ownBlock, e]))⟩
   exact hI.dZ (r' := { r with els := r.els.set i (el.take j ++ l ++ el.drop (j + l.length)) }) hr n4 ZK AS (by
    intro y hy
    simp only [List.mem_append] at hy
    rcases hy with (hy | hy) | hy
    ·exact agX y (List.mem_of_mem_take hy)
    ·exact Y1 y hy
    ·exact agX y (List.mem_of_mem_drop hy)) (by
    intro e he
    rcases List.mem_or_eq_of_mem_set he with he | rfl
    ·exact AQ e he
    ·simp; omega) rfl rfl (by simp)
 ·exact h.elim
end
section
variable {E : Env} {c : Cx} {w0 : World} {S0 : dW}
theorem AU {n : Nat} : ∀ (vs : List (Nat × Value)) (k : Nat) (cells : Array Value), (∀ j x, vs[j]? = some x → x.1 = k + j ∧ x.2.cells.size = n) → cells.size = (k + vs.length) * n →
  ∃ cN, Instr.fill (fun i => some (i * n, n)) cells vs = some cN ∧ cN.toList = cells.toList.take (k * n) ++ vs.flatMap fun x => x.2.cells.toList
 | [], k, cells, _, hs => ⟨cells, rfl, by simp at hs; rw [List.take_of_length_le (by simp [hs])]; simp⟩
 | (i, v) :: vs, k, cells, h, hs => by
  obtain ⟨h1, h2⟩ := h 0 (i, v) (by simp)
  simp only [Nat.add_zero] at h1 h2
  subst h1
  have ai2 : i * n + n ≤ cells.size := by
   rw [hs, List.length_cons, ← Nat.succ_mul]
   exact Nat.mul_le_mul_right _ (by omega)
  have hz3 : v.cells.toList.zipIdx = v.cells.zipIdx.toList := by simp
  have E0 := oT (i * n) v.cells.toList 0 cells (by simp [h2]; omega)
  have oG : (List.foldl (fun cs (x : Value × Nat) => cs.setIfInBounds (i * n + x.2) x.1) cells v.cells.toList.zipIdx).size = cells.size := by
   have := congrArg List.length E0
   simp only [Array.length_toList] at this
   rw [this]
   simp [h2]
   omega
  obtain ⟨cN, g1, g2⟩ := AU vs (i + 1) (List.foldl (fun cs (x : Value × Nat) => cs.setIfInBounds (i * n + x.2) x.1) cells v.cells.toList.zipIdx)
   (fun j x hx => by have := h (j + 1) x (by simpa using hx); exact ⟨by omega, this.2⟩) (by rw [oG, hs, List.length_cons]; congr 1; omega)
  refine ⟨cN, ?_, ?_⟩
  ·simp only [Instr.fill]
   rw [if_neg (by simp [h2]; omega), ← g1, hz3, Array.foldl_toList]
  ·rw [g2, E0]
   have e1 : (cells.toList.take (i * n + 0)).length = i * n := by rw [List.length_take]; simp; omega
   have e2 : v.cells.toList.length = n := by simp [h2]
   rw [show (i + 1) * n = i * n + n by rw [Nat.add_mul]; omega]
   rw [List.take_append, List.length_append, e1, e2, Nat.sub_self, List.take_zero, List.append_nil, List.take_of_length_le (by rw [List.length_append, e1, e2]; exact Nat.le_refl _)]
   simp [List.append_assoc]
theorem n5 {n : Nat} : ∀ {ps : List (Nat × PV)} {k : Nat} {els : List (List PV)}, gU n k ps = some els → els.length = ps.length ∧ (∀ e ∈ els, e.length = n) ∧ ∀ j x, ps[j]? = some x → x.1 = k + j ∧ ∃ e, els[j]? = some e ∧ bW x.2 = some e
 | [], k, els, h => by simp [gU] at h; subst h; simp
 | (i, p) :: ps, k, els, h => by
  simp only [gU] at h
  split at h
  ·rename_i l hl
   split at h
   ·rename_i SL
    rw [Option.map_eq_some_iff] at h
    obtain ⟨G1, h1, rfl⟩ := h
    obtain ⟨g1, g2, g3⟩ := n5 h1
    refine ⟨by simp [g1], fun e he => ?_, fun j x hx => ?_⟩
    ·simp at he
     rcases he with rfl | he
     ·exact SL.2
     ·exact g2 e he
    ·match j with
     | 0 => simp at hx; subst hx; exact ⟨by simpa using SL.1, l, by simp, hl⟩
     | j + 1 =>
      obtain ⟨q1, q2⟩ := g3 j x (by simpa using hx)
      exact ⟨by omega, by simpa using q2⟩
   ·cases h
  ·cases h
theorem Inv.auz (hI : Inv w0 S0 c) (o : Obj) : Inv w0 S0 { c with w := c.w.alloc o, S := fun b k => c.S b k ∨ b = c.w.heap.size } ∧ tF c { c with w := c.w.alloc o, S := fun b k => c.S b k ∨ b = c.w.heap.size } := by
 have := hI.grow (w' := c.w.alloc o) (S' := fun b k => c.S b k ∨ b = c.w.heap.size) ((Below.refl _ _).alloc (Nat.le_refl _) o) (fun _ _ h => .inl h) (fun b k h => h.imp (fun h => h) fun h => by subst h; simp)
 exact this
theorem ZL {p : PV} {v : Value} (hI : Inv w0 S0 c) (h : aQ c p v) (tJ : a9 p = []) (uZ : cM (fz c.rows p) = true) : c9 c.S c.w (fz c.rows p) v := by
 have := GZ hI (ids := []) (by simp) h (by simp [tJ]) uZ
 exact c9.mono (fun b o h => by rcases h with h | ⟨id, iI, _⟩; exact h; cases iI) (fun _ _ _ => rfl) _ _ this
theorem AV (hI : Inv w0 S0 c) {t e : TypeId} {n bb len : Nat} {z : List PV} (hE : E.ty t = .slice e n bb z) {parts : Array (Nat × Operand)} {ρ : Operand → PV} {vρ : Operand → Value} (hρ : ∀ x, aJ c (ρ x) (vρ x))
  {els : List (List PV)} (AQ : gU n 0 (parts.toList.map fun x => (x.1, ρ x.2)) = some els) (hlen : len = els.length) (hsm : len ≤ 4096) (hn : n ≤ 4096)
  (uZ : ∀ e ∈ els, ∀ p ∈ e, cM (fz c.rows p) = true ∧ iQ c.rows p) (tJ : ∀ e ∈ els, ∀ p ∈ e, a9 p = []) :
  ∃ v' c', (Instr.buildSlice t len (parts.map fun (i, x) => (i, vρ x))).run E.P c.w = .ok v' c'.w ∧ c'.rows = c.rows ∧ c'.used = c.used ∧ Inv w0 S0 c' ∧ tF c c' ∧ aJ c' (.jN (els.map fun e => e.map (fz c.rows))) v' := by
 obtain ⟨hu, hnp, G2, i, zv, hi, hz, hs, _, OP, _⟩ := fL hE
 obtain ⟨g1, g2, g3⟩ := n5 AQ
 have SO : parts.size = els.length := by rw [g1]; simp
 have auB : zv.cells.size = n := by rw [← G2, ← OP]; simp
 have E4 : ∀ j (x : Nat × Value), ((parts.map fun (i, x) => (i, vρ x)).toList)[j]? = some x → x.1 = 0 + j ∧ ∃ e, els[j]? = some e ∧ bB (aQ c) e x.2.cells.toList ∧ ∀ u ∈ x.2.cells.toList, u.oneCell' = true := by
  intro j x hx
  simp at hx
  obtain ⟨a, b, gO, rfl⟩ := hx
  obtain ⟨q1, e, q2, q3⟩ := g3 j (a, ρ b) (by simp; exact ⟨a, b, gO, rfl, rfl⟩)
  have q4 := mK (hρ b) q3 (fun q hq => (uZ e (List.mem_of_getElem? q2) q hq).2)
  exact ⟨q1, e, q2, q4.1, q4.2⟩
 obtain ⟨cN, f1, f2⟩ := AU (n := n) (parts.map fun (i, x) => (i, vρ x)).toList 0 ((Array.range (len * n)).map (zv.cells[· % zv.cells.size]!)) (fun j x hx => by
  obtain ⟨q1, e, q2, q3, _⟩ := E4 j x hx
  refine ⟨q1, ?_⟩
  have := q3.length
  rw [g2 e (List.mem_of_getElem? q2)] at this
  simpa using this.symm) (by simp [SO, hlen])
 simp only [Nat.zero_mul, List.take_zero, List.nil_append] at f2
 have jP : (Instr.buildSlice t len (parts.map fun (i, x) => (i, vρ x))).run E.P c.w = .ok (.slice (some ⟨c.w.heap.size, 0, none⟩) len len) (c.w.alloc (.cells cN e)) := by
  have hbound : ¬ (16777216 < len * n) := by
   have : len * n ≤ 4096 * 4096 := Nat.mul_le_mul hsm hn
   omega
  by_cases h0 : len * n = 0
  ·have u1 : len = 0 := by
    rcases Nat.mul_eq_zero.1 h0 with h | h
    ·exact h
    ·omega
   have hp0 : parts = #[] := Array.eq_empty_of_size_eq_zero (by omega)
   subst hp0
   subst u1
   simp [Instr.fill] at f1
   subst f1
   have E5 : Array.range 0 = #[] := rfl
   simp [Instr.buildSlice, run_underlying hu, dF hi, newRow, Instr.fill, E5]
  ·have f1' : Instr.fill (fun i => some (i * n, n)) ((Array.range (len * n)).map (zv.cells[· % zv.cells.size]!)) (parts.toList.map fun x => (x.1, vρ x.2)) = some cN := by simpa using f1
   simp only [Instr.buildSlice, Sem.run_bind, run_underlying hu, Result.andThen_ok, dF hi, hs]
   simp [h0, hbound, newRow, zeroValue, typeInfo, hi, hz, f1']
 obtain ⟨wQ, hA⟩ := hI.auz (.cells cN e)
 refine ⟨_, { c with w := c.w.alloc (.cells cN e), S := fun b k => c.S b k ∨ b = c.w.heap.size }, jP, rfl, rfl, wQ, hA, ?_⟩
 simp only [aJ, aQ, c9]
 refine ⟨some ⟨c.w.heap.size, 0, none⟩, by rw [List.length_map, hlen], by rw [List.length_map, ← hlen]; simp [maxLen]; omega, .inr ⟨_, _, rfl, ?_⟩⟩
 refine oF (n := n) (by
  intro e' uS
  simp at uS
  obtain ⟨e1, NZ, rfl⟩ := uS
  simpa using g2 e1 NZ) fun k el hk => ?_
 simp at hk
 obtain ⟨e1, NZ, rfl⟩ := hk
 refine i6 fun j p hj => ?_
 simp at hj
 obtain ⟨q, hq, rfl⟩ := hj
 have hkl : k < els.length := (List.getElem?_eq_some_iff.1 NZ).1
 obtain ⟨x, hx⟩ : ∃ x, ((parts.map fun (i, x) => (i, vρ x)).toList)[k]? = some x := ⟨_, List.getElem?_eq_getElem (by simp; omega)⟩
 obtain ⟨_, e2, q2, q3, q4⟩ := E4 k x hx
 rw [NZ] at q2; cases q2
 obtain ⟨u, hu1, hu2⟩ := q3.get hq
 have aoA : cN.toList[k * n + j]? = some u := by
  have e3 : cN.toList = ((parts.map fun (i, x) => (i, vρ x)).toList.map fun x => x.2.cells.toList).flatten := by rw [f2, List.flatMap_def]
  rw [e3]
  refine i7 (n := n) (fun e he => ?_) (i := k) (e := x.2.cells.toList) (by rw [List.getElem?_map, hx]; rfl) hu1
  simp only [List.mem_map] at he
  obtain ⟨y, hy, rfl⟩ := he
  obtain ⟨k', wO⟩ := List.getElem?_of_mem hy
  obtain ⟨_, e4, q5, q6, _⟩ := E4 k' y wO
  rw [← q6.length]; exact g2 e4 (List.mem_of_getElem? q5)
 refine ⟨u, ?_, .inr rfl, q4 u (List.mem_of_getElem? hu1), ?_⟩
 ·have := heap_alloc_new c.w (.cells cN e)
  rw [cell_of_row _ _ _ _ _ _ this]
  simpa using aoA
 ·exact c9.mono hA.S hA.w _ _ (ZL hI hu2 (tJ e1 (List.mem_of_getElem? NZ) q (List.mem_of_getElem? hq)) (uZ e1 (List.mem_of_getElem? NZ) q (List.mem_of_getElem? hq)).1)
end
section
variable {E : Env} {c : Cx} {w0 : World} {S0 : dW}
theorem mL {P : Program} {g : FuncId} {fn : Func} {b : Code} (h1 : P.funcs[g]? = some fn) (h2 : fn.body = some b) (h3 : (fn.name == "runtime.NumGoroutine") = false) (args : Array Value) (w : World) :
  (callFunc g args).run P w = .ok (.enter g args) w := by
 simp only [callFunc, Sem.run_bind, program, Sem.run, Result.andThen_ok, h1, h2, h3]
 simp
theorem yE (hI : Inv w0 S0 c) {ids : List Nat} (hp : ∀ id ∈ ids, ∀ r, c.rows id = some r → ∀ e ∈ r.els, ∀ p ∈ e, cM p = true) {pf : PV} {vf : Value} {SP : List PV} {yF : List Value}
  (hf : aJ c pf vf) (gB : bB (aJ c) SP yF) (tJ : ∀ p ∈ SP, ∀ id ∈ dX p, id ∈ ids) {v : PV} (h : yD E pf (SP.map (pz c.rows)) v) {K : Value → World → Prop}
  (hK : ∀ v' c', c'.rows = E3 c.rows ids → c'.used = c.used → tF c c' → Inv w0 S0 c' → aJ c' v v' → K v' c'.w) :
  ∃ g cs, vf = .func (.func g) #[] cs ∧ (callFunc g (yF.toArray ++ cs)).run E.P c.w = .ok (.enter g (yF.toArray ++ cs)) c.w ∧
   Calls E.P g (yF.toArray ++ cs) c.w fun e w' => ∃ v', e = .returned v' ∧ K v' w' := by
 unfold yD at h
 split at h
 ·rename_i g b6
  obtain ⟨sX, ⟨fn, b, h1, h2, h3⟩, OU⟩ := h
  simp only [aJ, aQ, c9] at hf
  obtain ⟨cs, rfl, JR⟩ := hf
  refine ⟨g, cs.toArray, rfl, mL h1 h2 h3 _ _, ?_⟩
  have J5 := hI.freeze ids
  have cW : ∀ b o, OQ c ids b o → b < c.w.heap.size := fun b o hb => J5.lt (c := DU c ids) hb
  have gE : bM (OQ c ids) c.w (SP.map (pz c.rows) ++ b6) (yF ++ cs) := by
   refine cU.2 (bB.append (bB.dN (by simp [gB.length]) fun k p u wP hu => ?_) ?_)
   ·simp at wP
    obtain ⟨q, hq, rfl⟩ := wP
    obtain ⟨u', g1, g2⟩ := gB.get hq
    rw [hu] at g1; cases g1
    exact G0 hI hp g2 (tJ q (List.mem_of_getElem? hq)) (List.all_eq_true.1 sX _ (by simp; exact ⟨q, List.mem_of_getElem? hq, rfl⟩))
   ·exact (cU.1 JR).mono fun a b gO => c9.mono (fun _ _ h => .inl h) (fun _ _ _ => rfl) a b gO
  have := OU c.w (OQ c ids) (yF ++ cs) cW gE
  rw [show (yF ++ cs).toArray = yF.toArray ++ cs.toArray by simp] at this
  refine this.mono ?_
  rintro e w' ⟨v', rfl, hb, S', g1, g2, g3⟩
  refine ⟨v', rfl, ?_⟩
  obtain ⟨hI2, hA2⟩ := J5.grow (c := DU c ids) hb g1 g2
  have hA : tF c { DU c ids with S := S', w := w' } := by
   have hA1 := l9 c ids
   exact ⟨fun b o h => g1 b o (hA1.S b o h), fun b o h => (hA2.w b o (hA1.S b o h)).trans (hA1.w b o h), fun _ h => h, hA1.rows⟩
  exact hK v' { DU c ids with S := S', w := w' } rfl rfl hA hI2 (aJ.jO g3)
 ·exact h.elim
structure oV (w0 : World) (S0 : dW) (n : Nat) (G : Gs) (U : Nat → Prop) (f : Nat → PV) (rows : Rows) (a : Act) (w : World) : Prop where
 ex : ∃ c : Cx, c.w = w ∧ c.rows = rows ∧ (∀ v, c.used v → U v) ∧ Inv w0 S0 c ∧ (∀ s, aJ c (f s) (a.tmps.getD s undef)) ∧ ∀ p ∈ G, aJ c p.1 p.2
 size : a.tmps.size = n
 defers : a.defers = []
abbrev Rel (w0 : World) (S0 : dW) (n : Nat) (G : Gs) (σ : PS) (a : Act) (w : World) : Prop := oV w0 S0 n G (fun v => v < σ.clock) σ.f σ.rows a w
theorem oV.mono {w0 : World} {S0 : dW} {n : Nat} {G : Gs} {U U' : Nat → Prop} {f : Nat → PV} {rows : Rows} {a : Act} {w : World} (hU : ∀ v, U v → U' v) (h : oV w0 S0 n G U f rows a w) : oV w0 S0 n G U' f rows a w := by
 obtain ⟨⟨c, h1, h2, h3, h4⟩, h5, h6⟩ := h
 exact ⟨⟨c, h1, h2, fun v hv => hU v (h3 v hv), h4⟩, h5, h6⟩
theorem oH {n : Nat} {G : Gs} {U : Nat → Prop} {f : Nat → PV} {a : Act} {c' : Cx} {v : PV} {v' : Value} {d : Option Tmp} (hf : ∀ s, aJ c (f s) (a.tmps.getD s undef)) (hG : ∀ p ∈ G, aJ c p.1 p.2) (hn : a.tmps.size = n) (fM : a.defers = [])
  (hA : tF c c') (hI : Inv w0 S0 c') (hv : aJ c' v v') (hd : ∀ t, d = some t → t < n) {f' : Nat → PV} {rows : Rows} (h1 : f' = put f d v) (h2 : rows = c'.rows) (h3 : ∀ v, c'.used v → U v) : oV w0 S0 n G U f' rows (a.put d v') c'.w := by
 refine ⟨⟨c', rfl, h2.symm, h3, hI, fun s => ?_, fun p hp => aJ.tG hA _ _ (hG p hp)⟩, ?_, ?_⟩
 ·rw [h1]
  cases d with
  | none => exact aJ.tG hA _ _ (hf s)
  | some t =>
   simp only [put, Act.put]
   by_cases hs : s = t
   ·subst hs
    have : s < a.tmps.size := by rw [hn]; exact hd s rfl
    simpa [this] using hv
   ·rw [if_neg hs]
    have := aJ.tG hA _ _ (hf s)
    simpa [Array.getElem?_setIfInBounds_ne (Ne.symm hs)] using this
 ·cases d <;> simp [Act.put, hn]
 ·cases d <;> simp [Act.put, fM]
theorem m7 {n : Nat} {G : Gs} {f : Nat → PV} {a : Act} {c' : Cx} {v : PV} {v' : Value} {d : Option Tmp} (hf : ∀ s, aJ c (f s) (a.tmps.getD s undef)) (hG : ∀ p ∈ G, aJ c p.1 p.2) (hn : a.tmps.size = n) (fM : a.defers = [])
  (hA : tF c c') (hI : Inv w0 S0 c') (hv : aJ c' v v') (hd : ∀ t, d = some t → t < n) {σ : PS} (h1 : σ.f = put f d v) (h2 : σ.rows = c'.rows) (h3 : ∀ v, c'.used v → v < σ.clock) : Rel w0 S0 n G σ (a.put d v') c'.w :=
 oH hf hG hn fM hA hI hv hd h1 h2 h3
theorem ZM {n : Nat} {G : Gs} {f : Nat → PV} {a : Act} {c' : Cx} {v : PV} {v' : Value} {d : Option Tmp} (hf : ∀ s, aJ c' (f s) (a.tmps.getD s undef)) (hG : ∀ p ∈ G, aJ c' p.1 p.2) (hn : a.tmps.size = n) (fM : a.defers = [])
  (hI : Inv w0 S0 c') (hv : aJ c' v v') (hd : ∀ t, d = some t → t < n) {σ : PS} (h1 : σ.f = put f d v) (h2 : σ.rows = c'.rows) (h3 : ∀ v, c'.used v → v < σ.clock) : Rel w0 S0 n G σ (a.put d v') c'.w :=
 m7 hf hG hn fM (tF.refl c') hI hv hd h1 h2 h3
theorem J6 {o : Oper} {a : Act} {f : Nat → PV} (hI : Inv w0 S0 c) (hf : ∀ s, aJ c (f s) (a.tmps.getD s undef)) {v : PV} {u : Option (Nat × Row)} (h : ys E o.op (aR f) c.rows v u)
  {K : Act → World → Prop} {Q : Exit → Act → World → Prop}
  (hK : ∀ v' c', c'.rows = gF c.rows u → c'.used = c.used → tF c c' → Inv w0 S0 c' → aJ c' v v' → K (a.put o.dst v') c'.w) : o.wp E.P a c.w K Q := by
 have hρ := l8 hf
 have plain : yv E o.op (aR f) c.rows v ∧ u = none → o.wp E.P a c.w K Q := by
  rintro ⟨hv, rfl⟩
  obtain ⟨v', h1, h2⟩ := aiZ hI hf hv
  unfold Oper.wp
  rw [h1]
  exact hK v' c rfl rfl (tF.refl c) hI h2
 obtain ⟨dst, op, type, pos, after, guard⟩ := o
 simp only at h hK plain
 unfold ys at h
 split at h
 ·rename_i t p x
  obtain ⟨rfl, w', h1, h2, h3⟩ := OT hI (hρ p) (hρ x) h
  unfold Oper.wp
  have : (execOp a.eval { dst := dst, op := .store t p x, type := type, pos := pos, after := after, guard := guard }).run E.P c.w = .ok .skip w' := by simp [execOp, h1]
  rw [this]
  exact hK undef { c with w := w', rows := gF c.rows u } rfl rfl h3 h2 (by simp [aJ, aQ])
 ·rename_i t len parts
  obtain ⟨h, rfl⟩ := h
  unfold OR at h
  split at h
  ·rename_i e n bb z hE
   obtain ⟨els, h1, h2, h3, h4, h5, h6, rfl⟩ := h
   obtain ⟨v', c', g1, g2, g3, g4, g5, g6⟩ := AV hI hE hρ h1 h2 h3 h4 h5 h6
   unfold Oper.wp
   have : (execOp a.eval { dst := dst, op := .buildSlice t len parts, type := type, pos := pos, after := after, guard := guard }).run E.P c.w = .ok (.value v') c'.w := by
    simp only [execOp, Sem.run_bind, g1, Result.andThen_ok, Sem.run_pure]
   rw [this]
   exact hK v' c' g2 g3 g5 g4 g6
  ·exact h.elim
 ·rename_i fo args ts
  obtain ⟨rfl, hc, tJ⟩ := h
  have gB : bB (aJ c) (args.toList.map fun x => aR f x) (args.map a.eval).toList := by
   refine bB.dN (by simp) fun k p u hp hu => ?_
   simp at hp hu
   obtain ⟨x, hx, rfl⟩ := hp
   obtain ⟨y, hy, rfl⟩ := hu
   rw [hx] at hy; cases hy
   exact hρ x
  have ZG : yD E (aR f fo) ((args.toList.map fun x => aR f x).map (pz c.rows)) v := by rw [List.map_map]; exact hc
  obtain ⟨g, cs, h1, h2, h3⟩ := yE hI (ids := []) (by simp) (hρ fo) gB (by
   intro p hp id iI
   simp at hp
   obtain ⟨x, hx, rfl⟩ := hp
   have : id ∈ args.toList.flatMap fun x => dX (aR f x) := by simp only [List.mem_flatMap]; exact ⟨x, by simpa using hx, iI⟩
   rw [tJ] at this; exact this) ZG (K := fun v' w' => K (a.put dst v') w') (fun v' c' q1 q2 q3 q4 q5 => hK v' c' (by rw [q1]; funext j; simp [E3, gF]) q2 q3 q4 q5)
  unfold Oper.wp
  have jP : (execOp a.eval { dst := dst, op := .call { callee := .value fo, args := args, argTypes := ts }, type := type, pos := pos, after := after, guard := guard }).run E.P c.w = .ok (.enter g (args.map a.eval ++ cs)) c.w := by
   simp only [execOp, resolve, h1, Deferred.ofValue, Sem.run_bind, Sem.run_pure, Result.andThen_ok, invoke]
   simp only [Array.toArray_toList] at h2
   simpa only [Array.empty_append] using h2
  rw [jP]
  simp only [Array.toArray_toList] at h3
  exact h3.mono fun e w' ⟨v', he, hk⟩ => by subst he; exact hk
 ·exact plain h
end
def room : Nat := 140737488355328
def u2 (rows : Rows) (y : PV) (l : List (List PV)) : Prop :=
 match y with
 | .nil => l = []
 | .sl k => l = k
 | .jN k => l = k
 | .own id ver off len => ∃ r, rows id = some r ∧ r.ver = ver ∧ l = (r.els.drop off).take len
 | _ => False
def eF (rows : Rows) (ids : List Nat) : Prop := ∀ id ∈ ids, ∀ r, rows id = some r → ∀ e ∈ r.els, ∀ p ∈ e, cM p = true
def G3 (K : PS → Prop) (σ : PS) (d : Option Tmp) (v : PV) (id : Nat) (e : TypeId) (n : Nat) (els : List (List PV)) : Prop :=
 K ⟨put σ.f d v, dZ σ.rows id (some ⟨σ.clock, e, n, els⟩), σ.clock + 1⟩
def G4 (E : Env) (o : Oper) (t : TypeId) (x y : PV) (K : PS → Prop) (σ : PS) : Prop :=
 match E.ty t with
 | .slice e n b _ =>
  ∃ l, u2 σ.rows y l ∧ (∀ e ∈ l, e.length = n) ∧
  match x with
  | .nil => l.length ≤ room ∧ l.length * b ≤ room ∧ G3 K σ o.dst (.own (o.dst.getD 0) σ.clock 0 l.length) (o.dst.getD 0) e n l
  | .own id ver off len => ∃ r, σ.rows id = some r ∧ r.ver = ver ∧ off = 0 ∧ len = r.els.length ∧ r.e = e ∧ r.size = n ∧ len + l.length ≤ room ∧ (len + l.length) * b ≤ room ∧
    G3 K σ o.dst (.own id σ.clock 0 (len + l.length)) id e n (r.els ++ l)
  | .jN l0 => (∀ e ∈ l0, e.length = n) ∧ (∀ e ∈ l, ∀ p ∈ e, cM p = true) ∧ l0.length + l.length ≤ room ∧ (l0.length + l.length) * b ≤ room ∧ K (σ.put o.dst (.sl (l0 ++ l)))
  | _ => False
 | _ => False
def E6 (K : Nat → (Nat → PV) → Rows → Prop) (ver : Nat) (f : Nat → PV) (rows : Rows) (d : Option Tmp) (v : PV) (id : Nat) (e : TypeId) (n : Nat) (els : List (List PV)) : Prop :=
 K 1 (put f d v) (dZ rows id (some ⟨ver, e, n, els⟩))
def oI (E : Env) (ver : Nat) (o : Oper) (t : TypeId) (x y : PV) (K : Nat → (Nat → PV) → Rows → Prop) (f : Nat → PV) (rows : Rows) : Prop :=
 match E.ty t with
 | .slice e n b _ =>
  ∃ l, u2 rows y l ∧ (∀ e ∈ l, e.length = n) ∧
  match x with
  | .nil => l.length ≤ room ∧ l.length * b ≤ room ∧ E6 K ver f rows o.dst (.own (o.dst.getD 0) ver 0 l.length) (o.dst.getD 0) e n l
  | .own id aoB off len => ∃ r, rows id = some r ∧ r.ver = aoB ∧ off = 0 ∧ len = r.els.length ∧ r.e = e ∧ r.size = n ∧ len + l.length ≤ room ∧ (len + l.length) * b ≤ room ∧
    E6 K ver f rows o.dst (.own id ver 0 (len + l.length)) id e n (r.els ++ l)
  | .jN l0 => (∀ e ∈ l0, e.length = n) ∧ (∀ e ∈ l, ∀ p ∈ e, cM p = true) ∧ l0.length + l.length ≤ room ∧ (l0.length + l.length) * b ≤ room ∧ K 0 (put f o.dst (.sl (l0 ++ l))) rows
  | _ => False
 | _ => False
def ZN : TI → Bool
 | .slice .. => true
 | _ => false
def eQ (E : Env) (o : Oper) (K : PS → Prop) (σ : PS) : Prop :=
 match o.op with
 | .alloc t => (E.ty t).known = true ∧ G3 K σ o.dst (.ptr (o.dst.getD 0) σ.clock 0 0) (o.dst.getD 0) t (E.ty t).size [(E.ty t).zero]
 | .box t x => (E.ty t).known = true ∧ ∃ l, bW (aR σ.f x) = some l ∧ (∀ q ∈ l, iQ σ.rows q) ∧ l.length = (E.ty t).size ∧ G3 K σ o.dst (.ptr (o.dst.getD 0) σ.clock 0 0) (o.dst.getD 0) t (E.ty t).size [l]
 | .makeSlice t l c =>
  match E.ty t, aR σ.f l, aR σ.f c with
  | .slice e n b z, .int _ x, .int _ y => 0 ≤ x ∧ x ≤ y ∧ y.toNat ≤ room ∧ y.toNat * b ≤ room ∧ G3 K σ o.dst (.own (o.dst.getD 0) σ.clock 0 x.toNat) (o.dst.getD 0) e n (List.replicate x.toNat z)
  | _, _, _ => False
 | .call { callee := .builtin .append, args := ⟨[x, y]⟩, argTypes := ⟨[t, t2]⟩ } => (t2 = t ∨ ZN (E.ty t2) = true) ∧ G4 E o t (aR σ.f x) (aR σ.f y) K σ
 | .call { callee := .builtin .copy, args := ⟨[x, y]⟩, argTypes := ⟨[t, _]⟩ } =>
  match E.ty t, aR σ.f x with
  | .slice _ n _ _, .own id ver off len => n = 1 ∧ ∃ r, σ.rows id = some r ∧ r.ver = ver ∧ r.size = n ∧ off + len ≤ r.els.length ∧ 0 < len ∧ ∃ l, u2 σ.rows (aR σ.f y) l ∧ (∀ e ∈ l, e.length = n) ∧
    K ⟨put σ.f o.dst (.int .i64 (min l.length len)), dZ σ.rows id (some { r with els := r.els.take off ++ l.take len ++ r.els.drop (off + min l.length len) }), σ.clock⟩
  | _, _ => False
 | .call { callee := .value f, args := args, argTypes := _ } => if ai1 E (aR σ.f f) = true then OS E (aR σ.f f) (args.toList.map (aR σ.f)) σ.rows σ.clock (fun v rows clk => K ⟨put σ.f o.dst v, rows, clk⟩)
   else ∃ v, yD E (aR σ.f f) (args.toList.map fun x => pz σ.rows (aR σ.f x)) v ∧ eF σ.rows (args.toList.flatMap fun x => dX (aR σ.f x)) ∧
   K ⟨put σ.f o.dst v, E3 σ.rows (args.toList.flatMap fun x => dX (aR σ.f x)), σ.clock⟩
 | .makeFunc (.func f) ⟨[]⟩ b6 => (b6.toList.map fun x => pz σ.rows (aR σ.f x)).all fW = true ∧ eF σ.rows (b6.toList.flatMap fun x => dX (aR σ.f x)) ∧
   K ⟨put σ.f o.dst (.fn f (b6.toList.map fun x => pz σ.rows (aR σ.f x))), E3 σ.rows (b6.toList.flatMap fun x => dX (aR σ.f x)), σ.clock⟩
 | _ => ∃ v u, ys E o.op (aR σ.f) σ.rows v u ∧ K ⟨put σ.f o.dst v, gF σ.rows u, σ.clock⟩
def n6 (E : Env) (ver : Nat) (o : Oper) (K : Nat → (Nat → PV) → Rows → Prop) (f : Nat → PV) (rows : Rows) : Prop :=
 match o.op with
 | .alloc t => (E.ty t).known = true ∧ E6 K ver f rows o.dst (.ptr (o.dst.getD 0) ver 0 0) (o.dst.getD 0) t (E.ty t).size [(E.ty t).zero]
 | .box t x => (E.ty t).known = true ∧ ∃ l, bW (aR f x) = some l ∧ (∀ q ∈ l, iQ rows q) ∧ l.length = (E.ty t).size ∧ E6 K ver f rows o.dst (.ptr (o.dst.getD 0) ver 0 0) (o.dst.getD 0) t (E.ty t).size [l]
 | .makeSlice t l c =>
  match E.ty t, aR f l, aR f c with
  | .slice e n b z, .int _ x, .int _ y => 0 ≤ x ∧ x ≤ y ∧ y.toNat ≤ room ∧ y.toNat * b ≤ room ∧ E6 K ver f rows o.dst (.own (o.dst.getD 0) ver 0 x.toNat) (o.dst.getD 0) e n (List.replicate x.toNat z)
  | _, _, _ => False
 | .call { callee := .builtin .append, args := ⟨[x, y]⟩, argTypes := ⟨[t, t2]⟩ } => (t2 = t ∨ ZN (E.ty t2) = true) ∧ oI E ver o t (aR f x) (aR f y) K f rows
 | _ => False
theorem u3 {n : Nat} (h : n ≤ room) : n ≤ maxLen := by unfold room at h; simp only [maxLen]; omega
theorem j8 {α : Type} {z : List α} : ∀ {x k : Nat} {a : α}, (List.replicate x z).flatten[k]? = some a → z[k % z.length]? = some a
 | 0, k, a, h => by simp at h
 | x + 1, k, a, h => by
  rw [List.replicate_succ, List.flatten_cons] at h
  rcases Nat.lt_or_ge k z.length with hk | hk
  ·rw [List.getElem?_append_left hk] at h
   rw [Nat.mod_eq_of_lt hk]; exact h
  ·rw [List.getElem?_append_right hk] at h
   have := j8 h
   rw [← Nat.mod_eq_sub_mod hk] at this; exact this
section
variable {E : Env} {c : Cx} {w0 : World} {S0 : dW}
theorem tK (hI : Inv w0 S0 c) {y : PV} {vy : Value} {l : List (List PV)} {n : Nat} (hy : aJ c y vy) (h : u2 c.rows y l) (hn : ∀ e ∈ l, e.length = n) :
  ∃ A cap news, vy = .slice A l.length cap ∧ news.length = l.length * n ∧ bB (aQ c) l.flatten news ∧ (∀ u ∈ news, u.oneCell' = true) ∧ (A = none → l = []) ∧
   ∀ a, A = some a → ∀ j u, news[j]? = some u → c.w.cell? (a.add j) = some u := by
 have fl : ∀ {l : List (List PV)}, (∀ e ∈ l, e.length = n) → l.flatten.length = l.length * n := by
  intro l
  induction l with
  | nil => intro _; simp
  | cons e l ih => intro h; rw [List.flatten_cons, List.length_append, ih (fun e he => h e (by simp [he])), h e (by simp), List.length_cons, Nat.add_mul]; omega
 have at_ : ∀ (g o cap : Nat), vy = .slice (some ⟨g, o, none⟩) l.length cap →
   (∀ k e, l[k]? = some e → ∀ j p, e[j]? = some p → ∃ v, c.w.cell? ⟨g, o + (k * n + j), none⟩ = some v ∧ v.oneCell' = true ∧ aQ c p v) → ∃ A cap news, vy = .slice A l.length cap ∧ news.length = l.length * n ∧ bB (aQ c) l.flatten news ∧ (∀ u ∈ news, u.oneCell' = true) ∧ (A = none → l = []) ∧
   ∀ a, A = some a → ∀ j u, news[j]? = some u → c.w.cell? (a.add j) = some u := by
  intro g o cap hv hc
  have cellAt : ∀ k, k < l.length * n → ∃ p v, l.flatten[k]? = some p ∧ c.w.cell? ⟨g, o + k, none⟩ = some v ∧ v.oneCell' = true ∧ aQ c p v := by
   intro k hk
   have ZO : 0 < n := by
    rcases Nat.eq_zero_or_pos n with h | h
    ·subst h; simp at hk
    ·exact h
   have hq : k / n < l.length := (Nat.div_lt_iff_lt_mul ZO).2 hk
   have he := hn l[k / n] (List.getElem_mem hq)
   have hj : k % n < l[k / n].length := by rw [he]; exact Nat.mod_lt _ ZO
   have SR : k / n * n + k % n = k := by rw [Nat.mul_comm]; exact Nat.div_add_mod k n
   obtain ⟨v, h1, h2, h3⟩ := hc (k / n) _ (List.getElem?_eq_getElem hq) (k % n) _ (List.getElem?_eq_getElem hj)
   rw [SR] at h1
   have := i7 hn (List.getElem?_eq_getElem hq) (List.getElem?_eq_getElem hj)
   rw [SR] at this
   exact ⟨_, v, this, h1, h2, h3⟩
  have hnl : ((List.range (l.length * n)).map fun k => (c.w.cell? ⟨g, o + k, none⟩).getD undef).length = l.length * n := by simp
  have ZC : ∀ k u, ((List.range (l.length * n)).map fun k => (c.w.cell? ⟨g, o + k, none⟩).getD undef)[k]? = some u → k < l.length * n ∧ ∃ p, l.flatten[k]? = some p ∧ c.w.cell? ⟨g, o + k, none⟩ = some u ∧ u.oneCell' = true ∧ aQ c p u := by
   intro k u hu
   have hk : k < l.length * n := by rw [← hnl]; exact (List.getElem?_eq_some_iff.1 hu).1
   obtain ⟨p, v, h1, h2, h3, h4⟩ := cellAt k hk
   rw [List.getElem?_map, List.getElem?_range hk] at hu
   simp only [Option.map_some, h2, Option.getD_some, Option.some.injEq] at hu
   subst hu
   exact ⟨hk, p, h1, h2, h3, h4⟩
  refine ⟨some ⟨g, o, none⟩, cap, _, hv, hnl, bB.dN (by rw [hnl, fl hn]) fun k p u hp hu => ?_, fun u hu => ?_, by simp, fun a ha j u hu => ?_⟩
  ·obtain ⟨_, p', h1, _, _, h4⟩ := ZC k u hu
   rw [hp] at h1; cases h1; exact h4
  ·obtain ⟨k, hk⟩ := List.getElem?_of_mem hu
   exact (ZC k u hk).2.choose_spec.2.2.1
  ·cases ha
   rw [iP]
   exact (ZC j u hu).2.choose_spec.2.1
 have empty : ∀ A cap, vy = .slice A l.length cap → l = [] → ∃ A cap news, vy = .slice A l.length cap ∧ news.length = l.length * n ∧ bB (aQ c) l.flatten news ∧ (∀ u ∈ news, u.oneCell' = true) ∧ (A = none → l = []) ∧
   ∀ a, A = some a → ∀ j u, news[j]? = some u → c.w.cell? (a.add j) = some u := by
  rintro A cap hv rfl
  exact ⟨A, cap, [], hv, by simp, trivial, by simp, by simp, by simp⟩
 unfold u2 at h
 split at h
 ·subst h
  simp only [aJ, aQ, c9] at hy
  exact empty none 0 (by rw [hy]; rfl) rfl
 ·subst h
  simp only [aJ, aQ, c9] at hy
  obtain ⟨A, cap, rfl, _, _, hh⟩ := hy
  rcases hh with hh | ⟨g, o, rfl, hr⟩
  ·exact empty A cap rfl hh
  ·refine at_ g o cap rfl fun k e hk j p hj => ?_
   obtain ⟨v, h1, _, h3, h4⟩ := iC (iY hr hn hk) hj
   exact ⟨v, by rw [← Nat.add_assoc]; exact h1, h3, aQ.jO h4⟩
 ·subst h
  simp only [aJ, aQ, c9] at hy
  obtain ⟨A, rfl, _, hh⟩ := hy
  rcases hh with hh | ⟨g, o, rfl, hr⟩
  ·exact empty A _ rfl hh
  ·refine at_ g o _ rfl fun k e hk j p hj => ?_
   obtain ⟨v, h1, _, h3, h4⟩ := iC (iY hr hn hk) hj
   exact ⟨v, by rw [← Nat.add_assoc]; exact h1, h3, aQ.jO h4⟩
 ·rename_i id ver off len
  obtain ⟨r, hr, j6, rfl⟩ := h
  simp only [aJ, aQ] at hy
  obtain ⟨hle, hy⟩ := hy.2 r hr j6
  have DV : ((r.els.drop off).take len).length = len := by simp; omega
  rw [← DV] at hy
  have oG : ∀ k e, ((r.els.drop off).take len)[k]? = some e → r.els[off + k]? = some e ∧ r.size = n := by
   intro k e hk
   have wO := hk
   rw [List.getElem?_take] at hk
   split at hk
   ·rw [List.getElem?_drop] at hk
    refine ⟨hk, ?_⟩
    rw [← hn e (List.mem_of_getElem? wO)]
    exact ((hI.row id r hr).len e (List.mem_of_getElem? hk)).symm
   ·cases hk
  rcases hy with ⟨h0, A, m, cap, hβ, rfl⟩ | ⟨lS, g, m, cap, A, hβ, hoc, rfl, ha⟩
  ·subst h0
   rcases Nat.eq_zero_or_pos len with h0 | h0
   ·exact empty A cap rfl (List.eq_nil_of_length_eq_zero (by rw [DV]; exact h0))
   ·obtain ⟨g, kD, qE⟩ := qD hI hr (by omega)
    rw [hβ] at qE
    simp only [Value.slice.injEq] at qE
    obtain ⟨rfl, rfl, rfl⟩ := qE
    refine at_ g 0 _ rfl fun k e hk j p hj => ?_
    obtain ⟨hk2, hs⟩ := oG k e hk
    have := uW hI hr hβ hk2 hj
    rw [hs] at this
    simpa using this
  ·rcases ha with ha | rfl
   ·exact empty _ _ rfl (List.eq_nil_of_length_eq_zero ha)
   ·refine at_ g _ _ rfl fun k e hk j p hj => ?_
    obtain ⟨hk2, hs⟩ := oG k e hk
    have := uW hI hr hβ hk2 hj
    rw [hs] at this ⊢
    rw [show off * n + (k * n + j) = (off + k) * n + j by rw [Nat.add_mul]; omega]; exact this
 ·exact h.elim
end
section
variable {E : Env} {c : Cx} {w0 : World} {S0 : dW}
theorem w6 (hI : Inv w0 S0 c) {ver : Nat} (SS : ¬ c.used ver) (id : Nat) (e : TypeId) (size n cap : Nat) (els : List (List PV)) (cells : Array Value) (hn : els.length = n) (SK : n ≤ cap) (hcm : cap ≤ maxLen) (oG : cells.size = cap * size)
  (gE : bB (aQ c) els.flatten (cells.toList.take (n * size))) (iR : ∀ u ∈ cells.toList, u.oneCell' = true) (hlen : ∀ e ∈ els, e.length = size) (lS : 0 < size) :
  Inv w0 S0 { c with w := c.w.alloc (.cells cells e), β := dZ c.β id (.slice (some ⟨c.w.heap.size, 0, none⟩) n cap), rows := dZ c.rows id (some ⟨ver, e, size, els⟩), used := fun v => v = ver ∨ c.used v } ∧
  tF c { c with w := c.w.alloc (.cells cells e), β := dZ c.β id (.slice (some ⟨c.w.heap.size, 0, none⟩) n cap), rows := dZ c.rows id (some ⟨ver, e, size, els⟩), used := fun v => v = ver ∨ c.used v } := by
 refine hI.set (ob := none) (r' := ⟨ver, e, size, els⟩) (xs := cells.toList.take (n * size)) (World.grownBy_alloc c.w _ none) (by simp) ?_ gE (fun x hx => iR x (List.mem_of_mem_take hx)) hlen lS ?_ SS
 ·have hle : n * size ≤ cap * size := Nat.mul_le_mul_right _ SK
  refine ⟨by simp [hn]; omega, .inr ⟨c.w.heap.size, cap, cells, by simp [hn], hI.below.size, heap_alloc_new c.w _, by simp [hn]; exact SK, hcm, oG, by simp [hn]⟩⟩
 ·intro g hg
  simp [Value.ownBlock] at hg
  exact .inr (by omega)
theorem ZP {t : TypeId} {n : Nat} {z : List PV} (h : lT E.P t n z) : ∃ i v, E.P.info? t = some i ∧ i.zero = some v ∧ i.size = n ∧ bB (aQ c) z v.cells.toList ∧ v.cells.size = n ∧ ∀ u ∈ v.cells.toList, u.oneCell' = true := by
 obtain ⟨i, v, h1, h2, h3, h4, h5⟩ := h.ok
 have hl : v.cells.size = n := by rw [← h.len, ← h4]; simp
 refine ⟨i, v, h1, h2, h3, ?_, hl, fun u hu => (Array.all_eq_true_iff_forall_mem.1 h5) u (by simpa using hu)⟩
 rw [← h4]
 refine bB.dN (by simp) fun k a b ha hb => ?_
 simp at ha
 obtain ⟨u, hu, rfl⟩ := ha
 have : v.cells.toList[k]? = some u := by simpa using hu
 rw [this] at hb; cases hb
 exact kC _
theorem lC {c' : Cx} {id ver n : Nat} {r : Row} (hr : c'.rows id = some r) (hn : r.els.length = n) (hc : c'.used ver) {A : Option Addr} {cap : Nat} (hβ : c'.β id = .slice A n cap) : aJ c' (.own id ver 0 n) (.slice A n cap) := by
 simp only [aJ, aQ]
 refine ⟨hc, fun r' lA _ => ?_⟩
 rw [hr] at lA; cases lA
 exact ⟨by omega, .inl ⟨by first | rfl | trivial, A, n, cap, hβ, rfl⟩⟩
theorem ZQ {c' : Cx} {id ver : Nat} (hc : c'.used ver) {g n cap : Nat} (hβ : c'.β id = .slice (some ⟨g, 0, none⟩) n cap) : aJ c' (.ptr id ver 0 0) (.pointer (some ⟨g, 0, none⟩)) := by
 simp only [aJ, aQ]
 exact ⟨hc, fun r' _ _ => ⟨g, n, cap, hβ, by simp⟩⟩
theorem sY {z : Array Value} {N k : Nat} (hk : k < N) (hz : 0 < z.size) : (madeCells z N).toList[k]? = z.toList[k % z.size]? := by
 have hm : k % z.size < z.size := Nat.mod_lt _ hz
 simp [madeCells, hk, hm]
variable {n : Nat} {G : Gs}
theorem qG {U : Nat → Prop} {ver : Nat} {f : Nat → PV} {rows : Rows} {a : Act} (hr : c.rows = rows) (fX : ∀ v, c.used v → U v) (hf : ∀ s, aJ c (f s) (a.tmps.getD s undef)) (hG : ∀ p ∈ G, aJ c p.1 p.2) (hn : a.tmps.size = n) (fM : a.defers = [])
  {K : (Nat → PV) → Rows → Prop} {d : Option Tmp} {v : PV} {id : Nat} {e : TypeId} {sz : Nat} {els : List (List PV)} (h : K (put f d v) (dZ rows id (some ⟨ver, e, sz, els⟩))) {v' : Value} {w' : World} {b' : Value}
  (hI : Inv w0 S0 { c with w := w', β := dZ c.β id b', rows := dZ c.rows id (some ⟨ver, e, sz, els⟩), used := fun v => v = ver ∨ c.used v })
  (hA : tF c { c with w := w', β := dZ c.β id b', rows := dZ c.rows id (some ⟨ver, e, sz, els⟩), used := fun v => v = ver ∨ c.used v })
  (hv : aJ { c with w := w', β := dZ c.β id b', rows := dZ c.rows id (some ⟨ver, e, sz, els⟩), used := fun v => v = ver ∨ c.used v } v v') (hd : ∀ t, d = some t → t < n) :
  ∃ f' rows', K f' rows' ∧ oV w0 S0 n G (fun v => v = ver ∨ U v) f' rows' (a.put d v') w' := by
 refine ⟨_, _, h, ?_⟩
 have := oH (U := fun v => v = ver ∨ U v) (f' := put f d v) (rows := dZ rows id (some ⟨ver, e, sz, els⟩)) hf hG hn fM hA hI hv hd rfl (by simp [hr]) (fun v hv => hv.imp (fun h => h) (fX v))
 exact this
theorem OV (hI : Inv w0 S0 c) {w' : World} (hg : c.w.grownBy w' none) {e : TypeId} {sz : Nat} {v' : Value} {els : List (List PV)} {xs : List Value} (iL : w'.ownsRow c.w.heap.size e sz v' els.length xs)
  (gE : bB (c9 c.S c.w) els.flatten xs) (iR : ∀ u ∈ xs, u.oneCell' = true) (hlen : ∀ e ∈ els, e.length = sz) :
  ∃ c', c'.w = w' ∧ c'.rows = c.rows ∧ c'.used = c.used ∧ Inv w0 S0 c' ∧ tF c c' ∧ aJ c' (.sl els) v' := by
 have hb : Below c.w.heap.size c.w w' := ⟨hg.os, hg.tape, hg.output, hg.size, fun k hk => hg.block k hk (by simp)⟩
 obtain ⟨wQ, hA⟩ := hI.grow (S' := fun b o => c.S b o ∨ (c.w.heap.size ≤ b ∧ b < w'.heap.size)) hb (fun _ _ h => .inl h) (fun _ _ h => h)
 refine ⟨{ c with S := fun b o => c.S b o ∨ (c.w.heap.size ≤ b ∧ b < w'.heap.size), w := w' }, rfl, rfl, rfl, wQ, hA, ?_⟩
 simp only [aJ, aQ, c9]
 rcases iL.2 with ⟨rfl, h0⟩ | ⟨g, cap, cur, rfl, SJ, hh, SK, hcm, JR, J4⟩
 ·exact ⟨none, 0, by rw [h0], by omega, by simp [maxLen], .inl (List.eq_nil_of_length_eq_zero h0)⟩
 ·refine ⟨_, cap, rfl, SK, hcm, .inr ⟨g, 0, rfl, oF hlen fun k el hk => i6 fun j p hj => ?_⟩⟩
  have hf := i7 hlen hk hj
  obtain ⟨u, hu, hr⟩ := gE.get hf
  have cW : g < w'.heap.size := (Array.getElem?_eq_some_iff.1 hh).1
  have E2 := iL.cells (g := g) rfl (k * sz + j) u hu
  rw [iP] at E2
  refine ⟨u, ?_, .inr ⟨SJ, cW⟩, iR u (List.mem_of_getElem? hu), c9.mono hA.S hA.w _ _ hr⟩
  rw [show 0 + k * sz + j = 0 + (k * sz + j) by omega]; exact E2
theorem VU {P : Program} {w : World} {t t2 ty : TypeId} {e e2 : TypeId} {x y : Value} (hu : P.underlying t = some (.slice e)) (hu2 : P.underlying t2 = some (.slice e2)) :
  (Builtin.append_ #[t, t2] ty #[x, y]).run P w = (Builtin.append_ #[t, t] ty #[x, y]).run P w := by
 unfold Builtin.append_
 simp only [List.getElem?_toArray, List.getElem?_cons_zero, List.getElem?_cons_succ, Sem.run_bind, run_underlying hu, Result.andThen_ok]
 cases x <;> simp [run_underlying hu, run_underlying hu2]
theorem aea {E : Env} {t2 : TypeId} (h : ZN (E.ty t2) = true) : ∃ e, E.P.underlying t2 = some (.slice e) := by
 cases hE : E.ty t2 with
 | slice e n b z => exact ⟨e, (fL hE).1⟩
 | _ => rw [hE] at h; cases h
theorem AW {U : Nat → Prop} {ver : Nat} (SS : ¬ U ver) {o : Oper} {a : Act} {f : Nat → PV} {rows : Rows} {x y : Operand} {t t2 : TypeId} (hop : o.op = .call { callee := .builtin .append, args := ⟨[x, y]⟩, argTypes := ⟨[t, t2]⟩ }) (ht2 : t2 = t ∨ ZN (E.ty t2) = true)
  (hI : Inv w0 S0 c) (hr : c.rows = rows) (fX : ∀ v, c.used v → U v) (hf : ∀ s, aJ c (f s) (a.tmps.getD s undef)) (hG : ∀ p ∈ G, aJ c p.1 p.2) (hn : a.tmps.size = n) (fM : a.defers = [])
  (hd : ∀ t, o.dst = some t → t < n) {K : Nat → (Nat → PV) → Rows → Prop} (h : oI E ver o t (aR f x) (aR f y) K f rows) {K' : Act → World → Prop} {Q : Exit → Act → World → Prop} (hK : ∀ i f' rows' a' w', K i f' rows' → oV w0 S0 n G (fun v => (i = 1 ∧ v = ver) ∨ U v) f' rows' a' w' → K' a' w') : o.wp E.P a c.w K' Q := by
 have hρ := l8 hf
 have run : ∀ {v' : Value} {w' : World}, (Builtin.append_ #[t, t] o.type #[a.eval x, a.eval y]).run E.P c.w = .ok v' w' → K' (a.put o.dst v') w' → o.wp E.P a c.w K' Q := by
  intro v' w' h1 h2
  unfold Oper.wp
  have YZ : (Builtin.append_ #[t, t2] o.type #[a.eval x, a.eval y]).run E.P c.w = .ok v' w' := by
   rcases ht2 with rfl | ht2
   ·exact h1
   ·obtain ⟨e2, hu2⟩ := aea ht2
    have hsl : ∃ e, E.P.underlying t = some (.slice e) := by
     unfold oI at h
     split at h
     ·rename_i e n b z hE; exact ⟨e, (fL hE).1⟩
     ·exact h.elim
    obtain ⟨e, hu⟩ := hsl
    rw [VU hu hu2]; exact h1
  have : (execOp a.eval o).run E.P c.w = .ok (.value v') w' := by
   simp only [execOp, hop, resolve, invoke, builtin, Sem.run_bind, Sem.run_pure, Result.andThen_ok, List.map_toArray, List.map_cons, List.map_nil, YZ]
  rw [this]
  exact h2
 unfold oI at h
 split at h
 ·rename_i e sz b z hE
  obtain ⟨l, hl, hlen, h⟩ := h
  obtain ⟨hu, lS, G2, i, zv, hi, hz, hs, hby, OP, _⟩ := fL hE
  have DW : zv.cells.size = sz := by rw [← G2, ← OP]; simp
  rw [← hr] at hl
  obtain ⟨A, cap, news, hvy, g1, g2, g3, g4, g5⟩ := tK hI (hρ y) hl hlen
  have main : ∀ (vx : Value) (k : Nat) (xs : List Value), c.w.ownsRow w0.heap.size e sz vx k xs → a.eval x = vx → k + l.length ≤ room → (k + l.length) * b ≤ room →
    ∃ v' w', (Builtin.append_ #[t, t] o.type #[a.eval x, a.eval y]).run E.P c.w = .ok v' w' ∧ w'.ownsRow w0.heap.size e sz v' (k + l.length) (xs ++ news) ∧ c.w.grownBy w' vx.ownBlock ∧ (v'.ownBlock = vx.ownBlock ∨ v'.ownBlock = some c.w.heap.size) := by
   intro vx k xs iL hvx J7 zC
   rw [hvx, hvy]
   cases A with
   | some ad =>
    obtain ⟨v', w', q1, q2, q3, _, q5⟩ := run_append_own_at (P := E.P) c.w w0.heap.size t o.type e i zv sz b hu hi hz hs hby DW lS vx k xs iL ad l.length cap news g1 (g5 ad rfl) g3 (u3 J7) (by simpa [room] using zC) hI.below.size
    exact ⟨v', w', q1, q2, q3, q5⟩
   | none =>
    have u1 := g4 rfl
    subst u1
    have ZO : news = [] := List.eq_nil_of_length_eq_zero (by simpa using g1)
    subst ZO
    refine ⟨vx, c.w, ?_, by simpa using iL, ⟨rfl, rfl, rfl, Nat.le_refl _, fun _ _ _ => rfl⟩, .inl rfl⟩
    rcases iL.2 with ⟨rfl, rfl⟩ | ⟨g, kD, cur, rfl, _, _, SK, _⟩
    ·simp [Builtin.append_, run_underlying hu, Go.sizeOf, typeInfo, hi, Builtin.lenOf, Builtin.firstCells]
    ·simp [Builtin.append_, run_underlying hu, Go.sizeOf, typeInfo, hi, Builtin.lenOf, Builtin.firstCells, SK, storeCells]
  split at h
  ·-- aoE nil
   rename_i heq
   obtain ⟨J7, zC, h⟩ := h
   have hx := hρ x
   rw [heq] at hx
   simp only [aJ, aQ, c9] at hx
   obtain ⟨v', w', q1, q2, q3, q4⟩ := main (.slice none 0 0) 0 [] (World.ownsRow_nil _ _ _ _) hx (by simpa using J7) (by simpa using zC)
   simp only [Nat.zero_add, List.nil_append] at q2
   obtain ⟨wQ, hA⟩ := hI.set (ob := none) (id := o.dst.getD 0) (r' := ⟨ver, e, sz, l⟩) (xs := news) q3 (by simp) q2 g2 g3 hlen lS (by
    intro g hg
    rcases q4 with q4 | q4
    ·rw [q4] at hg; simp [Value.ownBlock] at hg
    ·rw [q4] at hg; cases hg; exact .inr (Nat.le_refl _)) (fun hu => SS (fX _ hu))
   have hv : aJ { c with w := w', β := dZ c.β (o.dst.getD 0) v', rows := dZ c.rows (o.dst.getD 0) (some ⟨ver, e, sz, l⟩), used := fun v => v = ver ∨ c.used v } (.own (o.dst.getD 0) ver 0 l.length) v' := by
    have ZS : ∃ A' kD, v' = .slice A' l.length kD := by
     rcases q2.2 with ⟨rfl, h0⟩ | ⟨g, kD, cur, rfl, _⟩
     ·exact ⟨none, 0, by rw [h0]⟩
     ·exact ⟨_, kD, rfl⟩
    obtain ⟨A', kD, rfl⟩ := ZS
    exact lC (r := ⟨ver, e, sz, l⟩) (by simp [dZ]) rfl (Or.inl rfl) (by simp [dZ])
   obtain ⟨f', rows', hk, AX⟩ := qG (K := K 1) hr fX hf hG hn fM h wQ hA hv hd
   exact run q1 (hK 1 f' rows' _ _ hk (AX.mono fun v hv => hv.imp (fun h => ⟨rfl, h⟩) fun h => h))
  ·-- aoE a row of its own
   rename_i id aoB off len heq
   obtain ⟨r, hrr, j6, rfl, rfl, he, oG, J7, zC, h⟩ := h
   rw [← hr] at hrr
   have hx := hρ x
   rw [heq] at hx
   simp only [aJ, aQ] at hx
   obtain ⟨⟨xs, iL, gE, iR⟩, AY, hnS, _⟩ := hI.row id r hrr
   have hxv : a.eval x = c.β id := by
    rcases (hx.2 r hrr j6).2 with ⟨_, A', m, kD, hβ, hv⟩ | ⟨h0, _⟩
    ·have hm : m = r.els.length := by
      rw [hβ] at iL
      rcases iL.2 with ⟨h', h0⟩ | ⟨g, aoF, cur, h', _⟩
      ·simp at h'; omega
      ·simp at h'; exact h'.2.1
     rw [hv, hβ, hm]
    ·omega
   rw [he, oG] at iL
   obtain ⟨v', w', q1, q2, q3, q4⟩ := main (c.β id) r.els.length xs iL hxv J7 zC
   obtain ⟨wQ, hA⟩ := hI.set (ob := (c.β id).ownBlock) (id := id) (r' := ⟨ver, e, sz, r.els ++ l⟩) (xs := xs ++ news) q3 (by
    intro g hg
    refine ⟨(iL.lt g hg).1, fun o => hnS g o hg, fun jL r' lA nZ hb => nZ (hI.apart jL id r' r g lA hrr hb hg)⟩) (by simpa using q2) (by
     show bB (aQ c) (r.els ++ l).flatten _
     rw [List.flatten_append]; exact gE.append g2) (by
     intro u hu
     rcases List.mem_append.1 hu with hu | hu
     ·exact iR u hu
     ·exact g3 u hu) (by
     intro e' uS
     rcases List.mem_append.1 uS with uS | uS
     ·rw [AY e' uS, oG]
     ·exact hlen e' uS) lS (by
     intro g hg
     rcases q4 with q4 | q4
     ·exact .inl (by rw [← q4]; exact hg)
     ·rw [q4] at hg; cases hg; exact .inr (Nat.le_refl _)) (fun hu => SS (fX _ hu))
   have hv : aJ { c with w := w', β := dZ c.β id v', rows := dZ c.rows id (some ⟨ver, e, sz, r.els ++ l⟩), used := fun v => v = ver ∨ c.used v } (.own id ver 0 (r.els.length + l.length)) v' := by
    have ZS : ∃ A' kD, v' = .slice A' (r.els.length + l.length) kD := by
     rcases q2.2 with ⟨rfl, h0⟩ | ⟨g, kD, cur, rfl, _⟩
     ·exact ⟨none, 0, by rw [h0]⟩
     ·exact ⟨_, kD, rfl⟩
    obtain ⟨A', kD, rfl⟩ := ZS
    exact lC (r := ⟨ver, e, sz, r.els ++ l⟩) (by simp [dZ]) (by simp) (Or.inl rfl) (by simp [dZ])
   obtain ⟨f', rows', hk, AX⟩ := qG (K := K 1) hr fX hf hG hn fM h wQ hA hv hd
   exact run q1 (hK 1 f' rows' _ _ hk (AX.mono fun v hv => hv.imp (fun h => ⟨rfl, h⟩) fun h => h))
  ·-- aoE cells that stay, its capacity its length
   rename_i l0 heq
   obtain ⟨AY, SM, J7, zC, h⟩ := h
   have hx := hρ x
   rw [heq] at hx
   simp only [aJ, aQ, c9] at hx
   obtain ⟨A0, hA0, N4, ZT⟩ := hx
   have fin : ∀ {v' : Value} {w' : World}, (Builtin.append_ #[t, t] o.type #[a.eval x, a.eval y]).run E.P c.w = .ok v' w' →
     (∃ c', c'.w = w' ∧ c'.rows = c.rows ∧ c'.used = c.used ∧ Inv w0 S0 c' ∧ tF c c' ∧ aJ c' (.sl (l0 ++ l)) v') → o.wp E.P a c.w K' Q := by
    rintro v' w' jP ⟨c', rfl, h2, h3, h4, h5, h6⟩
    refine run jP (hK 0 _ _ _ _ h ?_)
    exact oH hf hG hn fM h5 h4 h6 hd rfl (by rw [h2, hr]) (by rw [h3]; exact fun v hv => .inr (fX v hv))
   have aeb : bB (c9 c.S c.w) l.flatten news := by
    refine bB.dN g2.length fun k p u hp hu => ?_
    obtain ⟨u', q1, q2⟩ := g2.get hp
    rw [hu] at q1; cases q1
    have tL := List.mem_of_getElem? hp
    rw [List.mem_flatten] at tL
    obtain ⟨e', uS, wP⟩ := tL
    exact q2.rep (SM e' uS p wP)
   by_cases u1 : l = []
   ·subst u1
    refine fin (v' := .slice A0 l0.length l0.length) (w' := c.w) ?_ ⟨c, rfl, rfl, rfl, hI, tF.refl c, ?_⟩
    ·have ZO : news = [] := List.eq_nil_of_length_eq_zero (by simpa using g1)
     subst ZO
     have hfc : (Builtin.firstCells i.size 0 (.slice A 0 cap)).run E.P c.w = .ok #[] c.w := by
      cases A with
      | none => simp [Builtin.firstCells]
      | some ad => simp [Builtin.firstCells, loadCells, loadCellsFrom]
     rw [hA0, hvy]
     cases A0 with
     | none => simp [Builtin.append_, run_underlying hu, Go.sizeOf, typeInfo, hi, Builtin.lenOf, hfc]
     | some ad0 => simp [Builtin.append_, run_underlying hu, Go.sizeOf, typeInfo, hi, Builtin.lenOf, hfc, storeCells]
    ·simp only [aJ, aQ, c9, List.append_nil]
     exact ⟨A0, _, rfl, Nat.le_refl _, N4, ZT⟩
   ·have aoG : 0 < l.length := List.length_pos_iff.2 u1
    obtain ⟨ad, rfl⟩ : ∃ ad, A = some ad := by
     cases A with
     | none => exact absurd (g4 rfl) u1
     | some ad => exact ⟨ad, rfl⟩
    obtain ⟨A2, aoH, aec, hvx, o1, o2, o3, o4, o5⟩ := tK (y := .jN l0) (vy := a.eval x) (l := l0) hI (by simp only [aJ, aQ, c9]; exact ⟨A0, hA0, N4, ZT⟩) rfl AY
    rw [hA0] at hvx
    simp only [Value.slice.injEq] at hvx
    obtain ⟨rfl, _, rfl⟩ := hvx
    have aed : bB (c9 c.S c.w) l0.flatten aec := by
     refine bB.dN o2.length fun k p u hp hu => ?_
     have tL := List.mem_of_getElem? hp
     rcases ZT with rfl | ⟨g, oo, rfl, hre⟩
     ·simp at hp
     ·have auE : l0.flatten.length = l0.length * sz := by rw [o2.length, o1]
      have hk : k < l0.length * sz := by rw [← auE]; exact (List.getElem?_eq_some_iff.1 hp).1
      have hq : k / sz < l0.length := (Nat.div_lt_iff_lt_mul lS).2 hk
      have mF := AY l0[k / sz] (List.getElem_mem hq)
      have hj : k % sz < l0[k / sz].length := by rw [mF]; exact Nat.mod_lt _ lS
      have SR : k / sz * sz + k % sz = k := by rw [Nat.mul_comm]; exact Nat.div_add_mod k sz
      have hfg := i7 AY (List.getElem?_eq_getElem hq) (List.getElem?_eq_getElem hj)
      rw [SR, hp] at hfg
      cases hfg
      obtain ⟨u', r1, _, _, r4⟩ := iC (iY hre AY (List.getElem?_eq_getElem hq)) (List.getElem?_eq_getElem hj)
      have := o5 _ rfl k u hu
      rw [iP] at this
      rw [show oo + k / sz * sz + k % sz = oo + k by omega, this] at r1
      cases r1; exact r4
    have grow : ∃ v' w', (Builtin.append_ #[t, t] o.type #[a.eval x, a.eval y]).run E.P c.w = .ok v' w' ∧ w'.ownsRow c.w.heap.size e sz v' (l0.length + l.length) (aec ++ news) ∧ c.w.grownBy w' none := by
     rw [hA0, hvy]
     cases A0 with
     | some ad0 => exact run_append_arg_grows (P := E.P) c.w t o.type e i zv sz b hu hi hz hs hby DW lS ad0 l0.length l0.length aec o1 (o5 ad0 rfl) ad l.length cap news g1 (g5 ad rfl) (by omega) (u3 J7) (by simpa [room] using zC)
     | none =>
      have auF := o4 rfl
      subst auF
      have ho0 : aec = [] := List.eq_nil_of_length_eq_zero (by simpa using o1)
      subst ho0
      obtain ⟨v', w', q1, q2, q3, _, q5⟩ := run_append_own_at (P := E.P) c.w c.w.heap.size t o.type e i zv sz b hu hi hz hs hby DW lS (.slice none 0 0) 0 [] (World.ownsRow_nil _ _ _ _) ad l.length cap news g1 (g5 ad rfl) g3 (by simpa using u3 J7) (by simpa [room] using zC) (Nat.le_refl _)
      exact ⟨v', w', q1, by simpa using q2, q3⟩
    obtain ⟨v', w', q1, q2, q3⟩ := grow
    refine fin q1 (OV hI q3 (els := l0 ++ l) (by simpa using q2) (by rw [List.flatten_append]; exact aed.append aeb) (fun u hu => ?_) (fun e' uS => ?_))
    ·rcases List.mem_append.1 hu with hu | hu
     ·exact o3 u hu
     ·exact g3 u hu
    ·rcases List.mem_append.1 uS with uS | uS
     ·exact AY e' uS
     ·exact hlen e' uS
  ·exact h.elim
 ·exact h.elim
end
section
variable {E : Env} {w0 : World} {S0 : dW} {n : Nat} {G : Gs}
theorem G5 {P : Program} (w : World) (dT sT ty elem : TypeId) (g o aee aoI : Nat) (A : Option Addr) (aef aoJ : Nat) (cur : Array Value) (t : TypeId) (cs : List Value)
  (hu : P.underlying dT = some (.slice elem)) (hs : (P.info? elem).map (·.size) = some 1)
  (hg : w.heap[g]? = some (.cells cur t (0, 0))) (hn : cs.length = Nat.min aef aee)
  (auG : ∀ a, A = some a → ∀ j v, cs[j]? = some v → w.cell? (a.add j) = some v) (hA : A = none → cs = []) (ai2 : o + cs.length ≤ cur.size) (h1 : ∀ v ∈ cs, v.oneCell' = true) :
  (Builtin.copy_ #[dT, sT] ty #[.slice (some ⟨g, o, none⟩) aee aoI, .slice A aef aoJ]).run P w =
   .ok (goInt cs.length) (w.setRow g (cur.toList.take o ++ cs ++ cur.toList.drop (o + cs.length)).toArray) := by
 cases A with
 | some a => exact run_copy_row P w dT sT ty elem g o aee aoI a aef aoJ cur t cs hu hs hg hn (auG a rfl) ai2 h1
 | none =>
  have := hA rfl
  subst this
  cases hq : P.info? elem with
  | none => simp [hq] at hs
  | some i =>
   have yG : Nat.min aef aee = 0 := by simpa using hn.symm
   have aoK := setRow_self w g cur t (0, 0) hg
   simp [Builtin.copy_, run_underlying hu, Builtin.lenOf, Builtin.firstCells, Go.sizeOf, typeInfo, hq, yG, storeCells, List.take_append_drop, aoK]
theorem u4 {U : Nat → Prop} {ver : Nat} (SS : ¬ U ver) {o : Oper} {a : Act} {w : World} {f : Nat → PV} {rows : Rows} {K : Nat → (Nat → PV) → Rows → Prop} (h : n6 E ver o K f rows) (hR : oV w0 S0 n G U f rows a w) (hd : ∀ t, o.dst = some t → t < n)
  {K' : Act → World → Prop} {Q : Exit → Act → World → Prop} (hK : ∀ i f' rows' a' w', K i f' rows' → oV w0 S0 n G (fun v => (i = 1 ∧ v = ver) ∨ U v) f' rows' a' w' → K' a' w') : o.wp E.P a w K' Q := by
 obtain ⟨⟨c, rfl, hr, fX, hI, hf, hG⟩, hn, fM⟩ := hR
 have hρ := l8 hf
 have hfu : ¬ c.used ver := fun hu => SS (fX _ hu)
 have value : ∀ {v' : Value} {w' : World}, (execOp a.eval o).run E.P c.w = .ok (.value v') w' → K' (a.put o.dst v') w' → o.wp E.P a c.w K' Q := by
  intro v' w' h1 h2
  unfold Oper.wp
  rw [h1]
  exact h2
 have newVar : ∀ (t : TypeId) (l : List PV) (vx : Value), (E.ty t).known = true → bB (aQ c) l vx.cells.toList → (∀ u ∈ vx.cells.toList, u.oneCell' = true) → l.length = (E.ty t).size →
   E6 K ver f rows o.dst (.ptr (o.dst.getD 0) ver 0 0) (o.dst.getD 0) t (E.ty t).size [l] → (execOp a.eval o).run E.P c.w = .ok (.value (.pointer (some ⟨c.w.heap.size, 0, none⟩))) (c.w.alloc (.cells vx.cells t)) → o.wp E.P a c.w K' Q := by
  intro t l vx hk gE iR hlen hp jP
  have hz := (E.ok t).zero hk
  have oG : vx.cells.size = (E.ty t).size := by rw [← hlen, gE.length]; simp
  obtain ⟨wQ, hA⟩ := w6 hI hfu (o.dst.getD 0) t (E.ty t).size 1 1 [l] vx.cells rfl (Nat.le_refl _) (by simp [maxLen]) (by omega) (by
   simp only [List.flatten_cons, List.flatten_nil, List.append_nil]
   rw [List.take_of_length_le (by simp [oG])]; exact gE) iR (by simpa using hlen) hz.pos
  obtain ⟨f', rows', wO, AX⟩ := qG (K := K 1) hr fX hf hG hn fM hp wQ hA (ZQ (Or.inl rfl) (g := c.w.heap.size) (n := 1) (cap := 1) (by simp [dZ])) hd
  exact value jP (hK 1 f' rows' _ _ wO (AX.mono fun v hv => hv.imp (fun h => ⟨rfl, h⟩) fun h => h))
 obtain ⟨dst, op, type, pos, after, guard⟩ := o
 simp only at hd value newVar
 unfold n6 at h
 simp only at h
 split at h
 ·-- alloc
  rename_i t
  obtain ⟨hk, h⟩ := h
  have hz := (E.ok t).zero hk
  obtain ⟨i, zv, h1, h2, h3, h4, h5, h6⟩ := ZP (c := c) hz
  exact newVar t (E.ty t).zero zv hk h4 h6 rfl h (by simp [execOp, Instr.alloc, zeroValue, typeInfo, h1, h2, Go.newVar, newRow])
 ·-- box
  rename_i t x
  obtain ⟨hk, l, hl, iR, hlen, h⟩ := h
  rw [← hr] at iR
  obtain ⟨g1, g2⟩ := mK (hρ x) hl iR
  exact newVar t l (a.eval x) hk g1 g2 hlen h (by simp [execOp, Instr.box, Go.newVar, newRow])
 ·-- makeSlice
  rename_i t l cc
  split at h
  ·rename_i e sz b z k1 x k2 y hE hl hc
   obtain ⟨h0, tM, J7, zC, h⟩ := h
   obtain ⟨hu, lS, G2, i, zv, hi, hz, hs, hby, OP, hzo⟩ := fL hE
   have g1 := hρ l
   have g2 := hρ cc
   rw [hl, cO] at g1
   rw [hc, cO] at g2
   have DW : zv.cells.size = sz := by rw [← G2, ← OP]; simp
   have ai5 : (i.bytes : Int) * y ≤ 281474976710656 := by
    rw [hby]
    have h3 : ((y.toNat * b : Nat) : Int) ≤ room := by exact_mod_cast zC
    have h4 : ((y.toNat : Nat) : Int) = y := Int.toNat_of_nonneg (by omega)
    rw [Int.natCast_mul, h4] at h3
    simp only [room] at h3
    rw [Int.mul_comm]; omega
   have jP := run_make (P := E.P) c.w t e i zv hu hi hz k1 k2 x y h0 tM ai5 (by simp only [room] at J7; omega)
   have ZU : (execOp a.eval { dst := dst, op := .makeSlice t l cc, type := type, pos := pos, after := after, guard := guard }).run E.P c.w = .ok (.value (.slice (some ⟨c.w.heap.size, 0, none⟩) x.toNat y.toNat)) (c.w.alloc (.cells (madeCells zv.cells (y.toNat * i.size)) e)) := by
    simp [execOp, g1, g2, jP]
   have aoL : bB (aQ c) z zv.cells.toList := by
    rw [← OP]
    refine bB.dN (by simp) fun k p u hp hu => ?_
    simp at hp
    obtain ⟨q, hq, rfl⟩ := hp
    have : zv.cells.toList[k]? = some q := by simpa using hq
    rw [this] at hu; cases hu
    exact kC _
   have hle : x.toNat * sz ≤ y.toNat * sz := Nat.mul_le_mul_right _ (by omega)
   have hL : ((madeCells zv.cells (y.toNat * i.size)).toList.take (x.toNat * sz)).length = x.toNat * sz := by
    rw [List.length_take, Array.length_toList, size_madeCells, hs]; exact Nat.min_eq_left hle
   obtain ⟨wQ, hA⟩ := w6 hI hfu (dst.getD 0) e sz x.toNat y.toNat (List.replicate x.toNat z) (madeCells zv.cells (y.toNat * i.size)) (by simp) (by omega) (u3 J7) (by rw [size_madeCells, hs]) (by
    refine bB.dN (by rw [hL]; simp [G2]) fun k p u hp hu => ?_
    have hk := (List.getElem?_eq_some_iff.1 hu).1
    rw [hL] at hk
    rw [List.getElem?_take, if_pos (by omega), sY (by rw [hs]; omega) (by omega)] at hu
    have wP := j8 hp
    rw [G2, ← DW] at wP
    obtain ⟨u', q1, q2⟩ := aoL.get wP
    rw [hu] at q1; cases q1; exact q2) (by
    intro u hu
    obtain ⟨k, hk⟩ := List.getElem?_of_mem hu
    have wO := (List.getElem?_eq_some_iff.1 hk).1
    simp [size_madeCells] at wO
    rw [sY wO (by omega)] at hk
    have := List.mem_of_getElem? hk
    exact (Array.all_eq_true_iff_forall_mem.1 hzo) u (by simpa using this)) (by
    intro e' uS
    rw [List.mem_replicate] at uS
    rw [uS.2, G2]) lS
   obtain ⟨f', rows', wO, AX⟩ := qG (K := K 1) hr fX hf hG hn fM h wQ hA (lC (r := ⟨ver, e, sz, List.replicate x.toNat z⟩) (A := some ⟨c.w.heap.size, 0, none⟩) (cap := y.toNat) (by simp [dZ]) (by simp) (Or.inl rfl) (by simp [dZ])) hd
   exact value ZU (hK 1 f' rows' _ _ wO (AX.mono fun v hv => hv.imp (fun h => ⟨rfl, h⟩) fun h => h))
  ·exact h.elim
 ·-- append
  rename_i x y t t2
  obtain ⟨ht2, h⟩ := h
  exact AW SS rfl ht2 hI hr fX hf hG hn fM hd h hK
 ·exact h.elim
theorem yH {o : Oper} {a : Act} {w : World} {σ : PS} {K : PS → Prop} (h : eQ E o K σ) (hR : Rel w0 S0 n G σ a w) (hd : ∀ t, o.dst = some t → t < n)
  {K' : Act → World → Prop} {Q : Exit → Act → World → Prop} (hK : ∀ σ' a' w', K σ' → Rel w0 S0 n G σ' a' w' → K' a' w') : o.wp E.P a w K' Q := by
 obtain ⟨⟨c, rfl, hr, fX, hI, hf, hG⟩, hn, fM⟩ := hR
 have hρ := l8 hf
 have value : ∀ {v' : Value} {w' : World}, (execOp a.eval o).run E.P c.w = .ok (.value v') w' → K' (a.put o.dst v') w' → o.wp E.P a c.w K' Q := by
  intro v' w' h1 h2
  unfold Oper.wp
  rw [h1]
  exact h2
 have aoM : (∃ v u, ys E o.op (aR σ.f) σ.rows v u ∧ K ⟨put σ.f o.dst v, gF σ.rows u, σ.clock⟩) → o.wp E.P a c.w K' Q := by
  rintro ⟨v, u, hy, hk⟩
  rw [← hr] at hy
  refine J6 hI hf hy fun v' c' h1 h2 h3 h4 h5 => hK _ _ _ hk ?_
  exact m7 hf hG hn fM h3 h4 h5 hd rfl (by simp [h1, hr]) (by rw [h2]; exact fX)
 have nw : n6 E σ.clock o (fun i f r => K ⟨f, r, σ.clock + i⟩) σ.f σ.rows → o.wp E.P a c.w K' Q := fun hp =>
  u4 (U := fun v => v < σ.clock) (Nat.lt_irrefl _) hp ⟨⟨c, rfl, hr, fX, hI, hf, hG⟩, hn, fM⟩ hd fun i f' rows' a' w' hk AX => hK _ _ _ hk (AX.mono fun v hv => by
   show v < σ.clock + i
   rcases hv with ⟨rfl, rfl⟩ | hv
   ·omega
   ·have : v < σ.clock := hv
    omega)
 obtain ⟨dst, op, type, pos, after, guard⟩ := o
 simp only at hd value aoM nw
 unfold eQ at h
 simp only at h
 split at h
 ·-- alloc
  rename_i t
  exact nw (show n6 E σ.clock _ _ σ.f σ.rows from h)
 ·-- box
  rename_i t x
  exact nw (show n6 E σ.clock _ _ σ.f σ.rows from h)
 ·-- makeSlice
  rename_i t l cc
  refine nw (show n6 E σ.clock _ _ σ.f σ.rows from ?_)
  unfold n6
  simp only
  split at h
  ·exact h
  ·exact h.elim
 ·-- append
  rename_i x y t t2
  obtain ⟨ht2, h⟩ := h
  refine nw (show n6 E σ.clock _ _ σ.f σ.rows from ⟨ht2, ?_⟩)
  unfold G4 at h
  unfold oI
  split at h
  ·obtain ⟨l, g1, g2, g3⟩ := h
   refine ⟨l, g1, g2, ?_⟩
   split at g3 <;> exact g3
  ·exact h
 ·-- copy
  rename_i x y t t2
  split at h
  ·rename_i e sz b z id ver off len hE hx
   obtain ⟨rfl, r, hrr, j6, oG, hle, aoG, l, hl, SU, h⟩ := h
   rw [← hr] at hrr hl
   have gx := hρ x
   rw [hx] at gx
   simp only [aJ, aQ] at gx
   obtain ⟨_, gx⟩ := gx.2 r hrr j6
   obtain ⟨hu, lS, G2, i, zv, hi, hz, hs, hby, OP, hzo⟩ := fL hE
   obtain ⟨A, cap, news, hvy, g1, g2, g3, g4, g5⟩ := tK hI (hρ y) hl SU
   obtain ⟨⟨xs, iL, gE, iR⟩, AQ, hnS, _⟩ := hI.row id r hrr
   obtain ⟨g, kD, hβ⟩ := qD hI hrr (by omega)
   obtain ⟨ai6, hvx⟩ : ∃ ai6, a.eval x = .slice (some ⟨g, off, none⟩) len ai6 := by
    rcases gx with ⟨h0, A', m, aoH, OW, hv⟩ | ⟨_, g2, m, aoH, A', OW, _, hv, ha⟩
    ·rw [hβ] at OW
     simp only [Value.slice.injEq] at OW
     obtain ⟨rfl, _, _⟩ := OW
     exact ⟨_, by rw [hv, h0]⟩
    ·rw [hβ] at OW
     simp only [Value.slice.injEq, Option.some.injEq, Addr.mk.injEq, and_true] at OW
     obtain ⟨rfl, _, _⟩ := OW
     rcases ha with ha | ha
     ·omega
     ·exact ⟨_, by rw [hv, ha, oG, Nat.mul_one]⟩
   have aoy := iL
   rw [hβ] at iL
   rcases iL.2 with ⟨h', _⟩ | ⟨g', aoF, cur, h', SJ, hg, SK, hcm, JR, J4⟩
   ·simp at h'
   ·simp only [Value.slice.injEq, Option.some.injEq, Addr.mk.injEq, and_true] at h'
    obtain ⟨rfl, _, rfl⟩ := h'
    rw [oG, Nat.mul_one] at JR J4
    have hnl : news.length = l.length := by simpa using g1
    have OX : (news.take len).length = Nat.min l.length len := by
     rw [List.length_take, hnl]; exact Nat.min_comm _ _
    have hml : Nat.min l.length len ≤ len := Nat.min_le_right _ _
    have jP := G5 (P := E.P) c.w t t2 type e g off len ai6 A l.length cap cur r.e (news.take len) hu (by simp [hi, hs]) hg OX
     (fun ad had j v hj => g5 ad had j v (by rw [List.getElem?_take] at hj; split at hj; exact hj; cases hj)) (fun hA => by
      have := g4 hA
      subst this
      have : news = [] := List.eq_nil_of_length_eq_zero (by simpa using hnl)
      simp [this]) (by rw [OX]; omega) (fun v hv => g3 v (List.mem_of_mem_take hv))
    have ZU : (execOp a.eval { dst := dst, op := .call { callee := .builtin .copy, args := ⟨[x, y]⟩, argTypes := ⟨[t, t2]⟩ }, type := type, pos := pos, after := after, guard := guard }).run E.P c.w = .ok (.value (goInt (news.take len).length)) (c.w.setRow g (cur.toList.take off ++ news.take len ++ cur.toList.drop (off + (news.take len).length)).toArray) := by
     simp only [execOp, resolve, invoke, builtin, Sem.run_bind, Sem.run_pure, Result.andThen_ok, List.map_toArray, List.map_cons, List.map_nil, hvx, hvy, jP]
    have one : ∀ {l : List (List PV)}, (∀ e ∈ l, e.length = 1) → ∀ k, (l.take k).flatten = l.flatten.take k ∧ (l.drop k).flatten = l.flatten.drop k := by
     intro l
     induction l with
     | nil => intro _ k; simp
     | cons e l ih =>
      intro hh k
      have he := hh e (by simp)
      match e, he with
      | [p], _ =>
       cases k with
       | zero => simp
       | succ k =>
        have := ih (fun e he => hh e (by simp [he])) k
        simp [this.1, this.2]
    have SV : ∀ e ∈ r.els, e.length = 1 := fun e he => by rw [AQ e he, oG]
    have axR : r.els.flatten.length = r.els.length := by rw [gE.length, iL.1, oG, Nat.mul_one]
    have hlf : l.flatten.length = l.length := by rw [g2.length, hnl]
    have agY : min l.length len = Nat.min l.length len := rfl
    have ZK : (c.w.setRow g (cur.toList.take off ++ news.take len ++ cur.toList.drop (off + (news.take len).length)).toArray).ownsRow w0.heap.size r.e r.size (c.β id) (r.els.take off ++ l.take len ++ r.els.drop (off + min l.length len)).length
      (xs.take off ++ news.take len ++ xs.drop (off + (news.take len).length)) := by
     have DV : (r.els.take off ++ l.take len ++ r.els.drop (off + min l.length len)).length = r.els.length := by simp; omega
     have hxl : xs.length = r.els.length := by rw [iL.1, oG, Nat.mul_one]
     rw [hβ, DV]
     refine ⟨?_, .inr ⟨g, kD, _, rfl, SJ, setRow_heap _ g cur _ r.e _ hg, SK, hcm, ?_, ?_⟩⟩
     ·rw [oG, Nat.mul_one]; simp [OX]; omega
     ·rw [oG, Nat.mul_one]; simp [OX]; omega
     ·rw [oG, Nat.mul_one, ← J4]
      have auy : cur.toList.length = kD := by simp [JR]
      simp only
      rw [List.take_append, List.take_append]
      have e1 : List.take r.els.length (cur.toList.take off) = cur.toList.take off := by rw [List.take_take, Nat.min_eq_right (by omega)]
      have e2 : List.take off (cur.toList.take r.els.length) = cur.toList.take off := by rw [List.take_take, Nat.min_eq_left (by omega)]
      rw [e1, e2]
      have e3 : (cur.toList.take off).length = off := by rw [List.length_take]; omega
      have e4 : List.take (r.els.length - off) (news.take len) = news.take len := List.take_of_length_le (by rw [OX]; omega)
      rw [e3, e4]
      congr 1
      rw [List.length_append, e3, List.drop_take]
    have n4 : c.w.grownBy (c.w.setRow g (cur.toList.take off ++ news.take len ++ cur.toList.drop (off + (news.take len).length)).toArray) (c.β id).ownBlock := by
     rw [hβ]
     exact ⟨rfl, rfl, rfl, by simp, fun k _ hk => setRow_other _ g k _ (fun e => hk (by simp [Value.ownBlock, e]))⟩
    obtain ⟨wQ, hA⟩ := hI.dZ (r' := { r with els := r.els.take off ++ l.take len ++ r.els.drop (off + min l.length len) }) hrr n4 ZK (by
     show bB (aQ c) (r.els.take off ++ l.take len ++ r.els.drop (off + min l.length len)).flatten _
     rw [List.flatten_append, List.flatten_append, (one SV off).1, (one SU len).1, (one SV _).2, agY, ← OX]
     exact ((gE.take _).append (g2.take _)).append (gE.drop _)) (by
     intro y' N5
     simp only [List.mem_append] at N5
     rcases N5 with (N5 | N5) | N5
     ·exact iR y' (List.mem_of_mem_take N5)
     ·exact g3 y' (List.mem_of_mem_take N5)
     ·exact iR y' (List.mem_of_mem_drop N5)) (by
     intro e' uS
     simp only [List.mem_append] at uS
     rw [oG]
     rcases uS with (uS | uS) | uS
     ·exact SV e' (List.mem_of_mem_take uS)
     ·exact SU e' (List.mem_of_mem_take uS)
     ·exact SV e' (List.mem_of_mem_drop uS)) rfl rfl (by simp; omega)
    refine value ZU (hK _ _ _ h ?_)
    exact m7 hf hG hn fM hA wQ (cO.2 (by
     have h9 := OX
     rw [← agY] at h9
     simp only [goInt, h9]
     congr 1
     omega)) hd rfl (by simp [hr]) fX
  ·exact h.elim
 ·-- a call
  rename_i fo args ts
  have gB : bB (aJ c) (args.toList.map fun x => aR σ.f x) (args.map a.eval).toList := by
   refine bB.dN (by simp) fun k p u hp hu => ?_
   simp at hp hu
   obtain ⟨x, hx, rfl⟩ := hp
   obtain ⟨y, hy, rfl⟩ := hu
   rw [hx] at hy; cases hy
   exact hρ x
  split at h
  ·have hfo := hρ fo
   unfold OS at h
   split at h
   ·rename_i g heq
    rw [heq] at hfo
    obtain ⟨R, ⟨⟨fn, b, h1, h2, h3⟩, OU⟩, hk⟩ := h
    simp only [aJ, aQ, c9] at hfo
    obtain ⟨cs, hfv, JR⟩ := hfo
    simp only [bM] at JR
    subst JR
    have qH := OU w0 S0 c _ (fun p => p ∈ G ∨ ∃ s, p = (σ.f s, a.tmps.getD s undef)) hI hr fX gB (by
     rintro p (hp | ⟨s, rfl⟩)
     ·exact hG p hp
     ·exact hf s)
    simp only [Array.toArray_toList] at qH
    unfold Oper.wp
    have jP : (execOp a.eval { dst := dst, op := .call { callee := .value fo, args := args, argTypes := ts }, type := type, pos := pos, after := after, guard := guard }).run E.P c.w = .ok (.enter g (args.map a.eval)) c.w := by
     simp only [execOp, resolve, hfv, Deferred.ofValue, Sem.run_bind, Sem.run_pure, Result.andThen_ok, invoke]
     simpa using mL h1 h2 h3 (args.map a.eval) c.w
    rw [jP]
    refine qH.mono ?_
    rintro e w' ⟨v', c', r, kF, rfl, rfl, wQ, hG', lE, ai8, hv'⟩
    refine hK _ _ _ (hk _ _ _ lE) ?_
    exact ZM (fun s => hG' (σ.f s, a.tmps.getD s undef) (.inr ⟨s, rfl⟩)) (fun p hp => hG' p (.inl hp)) hn fM wQ hv' hd rfl rfl ai8
   ·exact h.elim
  obtain ⟨v, hc, hp, hk⟩ := h
  rw [← hr] at hc hp hk
  have ZG : yD E (aR σ.f fo) ((args.toList.map fun x => aR σ.f x).map (pz c.rows)) v := by rw [List.map_map]; exact hc
  obtain ⟨g, cs, h1, h2, h3⟩ := yE hI (ids := args.toList.flatMap fun x => dX (aR σ.f x)) hp (hρ fo) gB (by
   intro p hp id iI
   simp at hp
   obtain ⟨x, hx, rfl⟩ := hp
   simp only [List.mem_flatMap]; exact ⟨x, by simpa using hx, iI⟩) ZG (K := fun v' w' => K' (a.put dst v') w') (fun v' c' q1 q2 q3 q4 q5 => hK _ _ _ hk (m7 hf hG hn fM q3 q4 q5 hd rfl (by simp [q1]) (by rw [q2]; exact fX)))
  unfold Oper.wp
  have jP : (execOp a.eval { dst := dst, op := .call { callee := .value fo, args := args, argTypes := ts }, type := type, pos := pos, after := after, guard := guard }).run E.P c.w = .ok (.enter g (args.map a.eval ++ cs)) c.w := by
   simp only [execOp, resolve, h1, Deferred.ofValue, Sem.run_bind, Sem.run_pure, Result.andThen_ok, invoke]
   simp only [Array.toArray_toList] at h2
   simpa only [Array.empty_append] using h2
  rw [jP]
  simp only [Array.toArray_toList] at h3
  exact h3.mono fun e w' ⟨v', he, hk⟩ => by subst he; exact hk
 ·-- a closure
  rename_i g b6
  obtain ⟨sX, hp, hk⟩ := h
  rw [← hr] at sX hp hk
  have J5 := hI.freeze (b6.toList.flatMap fun x => dX (aR σ.f x))
  refine value (v' := .func (.func g) #[] (b6.map a.eval)) (w' := c.w) (by simp [execOp, Instr.makeFunc]) (hK _ _ _ hk ?_)
  refine m7 (c' := DU c (b6.toList.flatMap fun x => dX (aR σ.f x))) hf hG hn fM (l9 c _) J5 ?_ hd rfl (by simp [DU]) fX
  simp only [aJ, aQ, c9]
  refine ⟨(b6.map a.eval).toList, by rw [Array.toArray_toList], cU.2 (bB.dN (by simp) fun k p u wP hu => ?_)⟩
  simp at wP hu
  obtain ⟨x, hx, rfl⟩ := wP
  obtain ⟨y, hy, rfl⟩ := hu
  rw [hx] at hy; cases hy
  have tL : x ∈ b6.toList := by simpa using Array.mem_of_getElem? hx
  exact G0 hI hp (hρ x) (fun id iI => by simp only [List.mem_flatMap]; exact ⟨x, tL, iI⟩) (List.all_eq_true.1 sX _ (by simp; exact ⟨x, by simpa using tL, rfl⟩))
 ·exact aoM h
end
def iM (op : Op) (ρ : Operand → PV) : List Nat :=
 match op with
 | .load _ p => a9 (ρ p)
 | .fieldAddr _ x _ => a9 (ρ x)
 | .indexAddr _ x _ => a9 (ρ x)
 | .slice _ x _ _ _ => a9 (ρ x)
 | .store _ p x => a9 (ρ p) ++ ((bW (ρ x)).getD []).flatMap a9
 | .call { callee := .builtin .len, args := ⟨[x]⟩, argTypes := ⟨[_]⟩ } => a9 (ρ x)
 | .call { callee := .builtin .append, args := ⟨[x, y]⟩, argTypes := ⟨[_, _]⟩ } => a9 (ρ x) ++ a9 (ρ y)
 | .nilCheck x => a9 (ρ x)
 | _ => []
def jQ (ids : List Nat) (rows rows' : Rows) : Prop := ∀ id ∈ ids, ∀ r, rows id = some r → rows' id = some r
section
variable {E : Env}
theorem G6 {rows rows' : Rows} {p : PV} (h : a9 p = []) : fz rows p = fz rows' p := by cases p <;> simp_all [fz, a9]
theorem aeh {rows rows' : Rows} {p : PV} (h : dX p = []) : pz rows p = pz rows' p := by
 cases p with
 | ag l =>
  simp only [dX, List.flatMap_eq_nil_iff] at h
  simp only [pz]
  congr 1
  exact List.map_congr_left fun q hq => G6 (h q hq)
 | _ => simp only [pz, dX] at h ⊢; exact G6 h
theorem G7 {rows rows' : Rows} {p : PV} (h : jQ (a9 p) rows rows') (ho : iQ rows p) : iQ rows' p := by
 cases p with
 | own id ver off len => obtain ⟨r, hr, hv⟩ := ho; exact ⟨r, h id (by simp [a9]) r hr, hv⟩
 | ptr id ver i j => obtain ⟨r, hr, hv⟩ := ho; exact ⟨r, h id (by simp [a9]) r hr, hv⟩
 | _ => exact ho
theorem VV {rows : Rows} {p : PV} (ho : iQ rows p) : ∀ id ∈ a9 p, ∃ r, rows id = some r := by
 intro id iI
 cases p with
 | own jL ver off len => simp [a9] at iI; subst iI; obtain ⟨r, hr, _⟩ := ho; exact ⟨r, hr⟩
 | ptr jL ver i j => simp [a9] at iI; subst iI; obtain ⟨r, hr, _⟩ := ho; exact ⟨r, hr⟩
 | _ => simp [a9] at iI
theorem ZV {t : TypeId} {rows rows' : Rows} {p v : PV} (h : jQ (a9 p) rows rows') (hy : sR E t rows p v) : sR E t rows' p v ∧ ∀ id ∈ a9 p, ∃ r, rows id = some r := by
 obtain ⟨hk, hy⟩ := hy
 cases p with
 | ptr id ver i j =>
  obtain ⟨r, hr, hh⟩ := hy
  exact ⟨⟨hk, r, h id (by simp [a9]) r hr, hh⟩, by simp [a9]; exact ⟨r, hr⟩⟩
 | rd l => exact ⟨⟨hk, hy⟩, by simp [a9]⟩
 | _ => exact hy.elim
theorem D6 {t : TypeId} {i : Nat} {rows rows' : Rows} {x v : PV} (h : jQ (a9 x) rows rows') (hy : fJ E t rows i x v) : fJ E t rows' i x v ∧ ∀ id ∈ a9 x, ∃ r, rows id = some r := by
 unfold fJ at *
 split at hy
 ·rename_i fs z hE
  obtain ⟨o, n, b, hf, hy⟩ := hy
  cases x with
  | ptr id ver a j =>
   obtain ⟨⟨r, hr, hv⟩, hh⟩ := hy
   exact ⟨⟨o, n, b, hf, ⟨r, h id (by simp [a9]) r hr, hv⟩, hh⟩, by simp [a9]; exact ⟨r, hr⟩⟩
  | rd l => exact ⟨⟨o, n, b, hf, hy⟩, by simp [a9]⟩
  | _ => exact hy.elim
 ·exact hy.elim
theorem D7 {t : TypeId} {rows rows' : Rows} {x ix v : PV} (h : jQ (a9 x) rows rows') (hy : fK E t rows x ix v) : fK E t rows' x ix v ∧ ∀ id ∈ a9 x, ∃ r, rows id = some r := by
 unfold fK at *
 split at hy
 ·split at hy
  ·obtain ⟨h0, hy⟩ := hy
   cases x with
   | own id ver off len =>
    obtain ⟨r, hr, hh⟩ := hy
    exact ⟨⟨h0, r, h id (by simp [a9]) r hr, hh⟩, by simp [a9]; exact ⟨r, hr⟩⟩
   | sl l => exact ⟨⟨h0, hy⟩, by simp [a9]⟩
   | jN l => exact ⟨⟨h0, hy⟩, by simp [a9]⟩
   | _ => exact hy.elim
  ·exact hy.elim
 ·split at hy
  ·obtain ⟨h0, hy⟩ := hy
   cases x with
   | ptr id ver a j =>
    obtain ⟨⟨r, hr, hv⟩, hh⟩ := hy
    exact ⟨⟨h0, ⟨r, h id (by simp [a9]) r hr, hv⟩, hh⟩, by simp [a9]; exact ⟨r, hr⟩⟩
   | rd l => exact ⟨⟨h0, hy⟩, by simp [a9]⟩
   | _ => exact hy.elim
  ·exact hy.elim
 ·exact hy.elim
theorem VW {t : TypeId} {rows rows' : Rows} {x v : PV} {lo hi mx : Option PV} (h : jQ (a9 x) rows rows') (hy : nY E t rows x lo hi mx v) : nY E t rows' x lo hi mx v ∧ ∀ id ∈ a9 x, ∃ r, rows id = some r := by
 unfold nY at *
 split at hy
 ·cases x with
  | own id ver off len =>
   obtain ⟨r, hr, hh⟩ := hy
   exact ⟨⟨r, h id (by simp [a9]) r hr, hh⟩, by simp [a9]; exact ⟨r, hr⟩⟩
  | nil => exact ⟨hy, by simp [a9]⟩
  | sl l => exact ⟨hy, by simp [a9]⟩
  | jN l => exact ⟨hy, by simp [a9]⟩
  | _ => exact hy.elim
 ·exact hy.elim
theorem aei {rows rows' : Rows} {x : PV} {n : Nat} (h : jQ (a9 x) rows rows') (hy : VO rows x n) : VO rows' x n ∧ ∀ id ∈ a9 x, ∃ r, rows id = some r := by
 unfold VO at *
 cases x with
 | own id ver off len =>
  obtain ⟨⟨r, hr, hv⟩, hh⟩ := hy
  exact ⟨⟨⟨r, h id (by simp [a9]) r hr, hv⟩, hh⟩, by simp [a9]; exact ⟨r, hr⟩⟩
 | nil => exact ⟨hy, by simp [a9]⟩
 | sl l => exact ⟨hy, by simp [a9]⟩
 | jN l => exact ⟨hy, by simp [a9]⟩
 | _ => exact hy.elim
theorem aej {rows rows' : Rows} {x v : PV} (h : jQ (a9 x) rows rows') (hy : D5 rows x v) : D5 rows' x v ∧ ∀ id ∈ a9 x, ∃ r, rows id = some r := by
 unfold D5 at *
 cases x with
 | ptr id ver i j =>
  obtain ⟨⟨r, hr, hv⟩, hh⟩ := hy
  exact ⟨⟨⟨r, h id (by simp [a9]) r hr, hv⟩, hh⟩, by simp [a9]; exact ⟨r, hr⟩⟩
 | rd l => exact ⟨hy, by simp [a9]⟩
 | _ => exact hy.elim
theorem VX {t : TypeId} {rows rows' : Rows} {p x v : PV} {u : Option (Nat × Row)} (h : jQ (a9 p ++ ((bW x).getD []).flatMap a9) rows rows') (hy : qF E t rows p x v u) :
  qF E t rows' p x v u ∧ (∀ id ∈ a9 p ++ ((bW x).getD []).flatMap a9, ∃ r, rows id = some r) ∧ ∃ id r, u = some (id, r) ∧ id ∈ a9 p := by
 obtain ⟨hk, hv, hy⟩ := hy
 cases p with
 | ptr id ver i j =>
  obtain ⟨r, hr, j6, el, mF, l, hl, iR, hh1, hh2, hh3⟩ := hy
  rw [hl] at h ⊢
  simp only [Option.getD_some] at h ⊢
  refine ⟨⟨hk, hv, r, h id (by simp [a9]) r hr, j6, el, mF, l, hl, fun q hq => G7 (fun jL AR => h jL ?_) (iR q hq), hh1, hh2, hh3⟩, ?_, ?_⟩
  ·simp only [List.mem_append, List.mem_flatMap]; exact .inr ⟨q, hq, AR⟩
  ·intro jL AR
   simp only [List.mem_append, List.mem_flatMap] at AR
   rcases AR with AR | ⟨q, hq, AR⟩
   ·simp [a9] at AR; subst AR; exact ⟨r, hr⟩
   ·exact VV (iR q hq) jL AR
  ·exact ⟨id, _, hh3, by simp [a9]⟩
 | _ => exact hy.elim
theorem ag0 {op : Op} {ρ : Operand → PV} {rows rows' : Rows} {v : PV} {u : Option (Nat × Row)} (h : jQ (iM op ρ) rows rows') (hy : ys E op ρ rows v u) :
  ys E op ρ rows' v u ∧ (∀ id ∈ iM op ρ, ∃ r, rows id = some r) ∧ ∀ id r, u = some (id, r) → id ∈ iM op ρ := by
 unfold ys at hy ⊢
 split at hy
 ·rename_i t p x
  obtain ⟨h1, h2, id, r, h3, h4⟩ := VX h hy
  exact ⟨h1, h2, fun jL r' hu => by rw [h3] at hu; cases hu; simp only [iM, List.mem_append]; exact .inl h4⟩
 ·rename_i t len parts
  obtain ⟨hy, rfl⟩ := hy
  unfold OR at hy ⊢
  split at hy
  ·obtain ⟨els, h1, h2, h3, h4, h5, h6, rfl⟩ := hy
   have hfz : ∀ e ∈ els, ∀ p ∈ e, fz rows p = fz rows' p := fun e he p hp => G6 (h6 e he p hp)
   refine ⟨⟨⟨els, h1, h2, h3, h4, fun e he p hp => ⟨by rw [← hfz e he p hp]; exact (h5 e he p hp).1, G7 (by rw [h6 e he p hp]; intro id iI; cases iI) (h5 e he p hp).2⟩, h6, ?_⟩, rfl⟩, by simp [iM], by simp⟩
   congr 1
   exact List.map_congr_left fun e he => List.map_congr_left fun p hp => hfz e he p hp
  ·exact hy.elim
 ·rename_i f args ts
  obtain ⟨rfl, h1, h2⟩ := hy
  refine ⟨⟨rfl, ?_, h2⟩, by simp [iM], by simp⟩
  have : (args.toList.map fun x => pz rows (ρ x)) = args.toList.map fun x => pz rows' (ρ x) :=
   List.map_congr_left fun x hx => aeh (List.flatMap_eq_nil_iff.1 h2 x hx)
  rw [← this]; exact h1
 ·obtain ⟨hy, rfl⟩ := hy
  suffices hs : yv E op ρ rows' v ∧ ∀ id ∈ iM op ρ, ∃ r, rows id = some r from ⟨⟨hs.1, rfl⟩, hs.2, by simp⟩
  unfold yv at hy ⊢
  split at hy
  case h_8 => exact ZV h hy
  case h_10 => exact D6 h hy
  case h_11 => exact D7 h hy
  case h_12 => exact VW h hy
  case h_16 =>
   simp only [iM] at h ⊢
   unfold x7 at hy ⊢
   split at hy
   ·obtain ⟨n, hn, hv⟩ := hy
    have := aei (rows' := rows') h hn
    exact ⟨⟨n, this.1, hv⟩, this.2⟩
   ·exact hy.elim
  case h_19 => exact aej h hy
  all_goals first
   | exact hy.elim
   | exact ⟨hy, by simp [iM]⟩
end
end Pm
