import Derived.Test.YtdiladmkbpnhoaaGreatMa
import Derived.Laws.CopyOwn
import Derived.ArgAppend
set_option linter.unusedSimpArgs false
set_option linter.unusedVariables false
namespace Pm
open Go Go.RowKit
def frR (rows : Rows) (ids : List Nat) : Rows := fun j => if j ∈ ids then none else rows j
def frS (c : Cx) (ids : List Nat) : Stab := fun b o => c.S b o ∨ ∃ id ∈ ids, (∃ r, c.rows id = some r) ∧ (c.β id).ownBlock = some b
section
variable {E : Env} {c : Cx} {w0 : World} {S0 : Stab}
def frC (c : Cx) (ids : List Nat) : Cx := { c with S := frS c ids, rows := frR c.rows ids }
theorem frC_adv (c : Cx) (ids : List Nat) : Adv c (frC c ids) :=
 ⟨fun _ _ h => .inl h, fun _ _ _ => rfl, fun _ h => h, fun id r hr => by
  simp only [frC, frR] at hr ⊢
  split at hr
  ·cases hr
  ·exact .inr ⟨r, hr, rfl, rfl, rfl, by first | rfl | trivial⟩⟩
theorem Inv.freeze (hI : Inv w0 S0 c) (ids : List Nat) : Inv w0 S0 (frC c ids) := by
 have live : ∀ {k : Nat} {t : Row}, frR c.rows ids k = some t → c.rows k = some t ∧ k ∉ ids := by
  intro k t h
  simp only [frR] at h
  split at h
  ·cases h
  ·rename_i hk; exact ⟨h, hk⟩
 have hblk : ∀ {id : Nat} {r : Row} {g : Nat}, c.rows id = some r → (c.β id).ownBlock = some g → w0.heap.size ≤ g ∧ g < c.w.heap.size := by
  intro id r g hr hg
  obtain ⟨⟨ys, g1, _, _⟩, _⟩ := hI.row id r hr
  exact g1.lt g hg
 refine ⟨hI.below, fun b o h => .inl (hI.ext b o h), fun b o h => ?_, hI.lt0, fun id r hr => hI.clock id r (live hr).1, fun id r hr => ?_, fun i j r s g hr hs => hI.apart i j r s g (live hr).1 (live hs).1⟩
 ·rcases h with h | ⟨id, _, ⟨r, hr⟩, hb⟩
  ·exact hI.new b o h
  ·exact .inr (hblk hr hb)
 ·obtain ⟨hr', hk⟩ := live hr
  obtain ⟨⟨ys, g1, g2, g3⟩, g4, g5, g6⟩ := hI.row id r hr'
  refine ⟨⟨ys, g1, g2.mono (RepC.adv (frC_adv c ids)), g3⟩, g4, fun g o hg hS => ?_, g6⟩
  rcases hS with h | ⟨id', hid', ⟨r', hr2⟩, hb⟩
  ·exact g5 g o hg h
  ·have := hI.apart id id' r r' g hr' hr2 hg hb
   subst this
   exact hk hid'
theorem fr_cell (hI : Inv w0 S0 c) {ids : List Nat} (hp : ∀ id ∈ ids, ∀ r, c.rows id = some r → ∀ e ∈ r.els, ∀ p ∈ e, pers1 p = true) {id : Nat} (hid : id ∈ ids) {r : Row} (hr : c.rows id = some r)
  {g n cap : Nat} (hβ : c.β id = .slice (some ⟨g, 0, none⟩) n cap) {i j : Nat} {el : List PV} {p : PV} (hi : r.els[i]? = some el) (hj : el[j]? = some p) :
  ∃ v, c.w.cell? ⟨g, i * r.size + j, none⟩ = some v ∧ frS c ids g (i * r.size + j) ∧ v.oneCell' = true ∧ Rep (frS c ids) c.w p v := by
 obtain ⟨v, h1, h2, h3⟩ := row_cell hI hr hβ hi hj
 refine ⟨v, h1, .inr ⟨id, hid, ⟨r, hr⟩, by simp [hβ, Value.ownBlock]⟩, h2, ?_⟩
 have h4 := h3.rep (hp id hid r hr el (List.mem_of_getElem? hi) p (List.mem_of_getElem? hj))
 exact Rep.mono (fun _ _ h => .inl h) (fun _ _ _ => rfl) _ _ h4
theorem fz_rep (hI : Inv w0 S0 c) {ids : List Nat} (hp : ∀ id ∈ ids, ∀ r, c.rows id = some r → ∀ e ∈ r.els, ∀ p ∈ e, pers1 p = true) {p : PV} {v : Value} (h : RepC c p v) (hids : ∀ id ∈ ids1 p, id ∈ ids) (hpp : pers1 (fz c.rows p) = true) :
  Rep (frS c ids) c.w (fz c.rows p) v := by
 have mono : ∀ q u, Rep c.S c.w q u → Rep (frS c ids) c.w q u := fun q u => Rep.mono (fun _ _ h => .inl h) (fun _ _ _ => rfl) q u
 cases p with
 | own id ver off len =>
  simp only [fz] at hpp ⊢
  have hid : id ∈ ids := hids id (by simp [ids1])
  cases hr : c.rows id with
  | none => simp [hr, pers1] at hpp
  | some r =>
   simp only [hr] at hpp ⊢
   by_cases hv : r.ver = ver
   ·simp only [hv, if_true] at hpp ⊢
    simp only [RepC] at h
    obtain ⟨hle, h⟩ := h.2 r hr hv
    obtain ⟨⟨xs, hown, _, _⟩, hlen, _⟩ := hI.row id r hr
    have hcap : ∀ A m cap, c.β id = .slice A m cap → r.els.length ≤ cap ∧ cap ≤ maxLen := by
     intro A m cap hβ
     rw [hβ] at hown
     rcases hown.2 with ⟨h', hz⟩ | ⟨g, cap', cur, h', _, _, hnc, hm, _⟩
     ·simp at h'; exact ⟨by omega, by rw [h'.2.2]; simp⟩
     ·simp at h'; obtain ⟨_, _, rfl⟩ := h'; exact ⟨hnc, hm⟩
    have hll : ((r.els.drop off).take len).length = len := by simp; omega
    have els : ∀ g n cap, c.β id = .slice (some ⟨g, 0, none⟩) n cap → RepEls (frS c ids) c.w g (off * r.size) ((r.els.drop off).take len) := by
     intro g n cap hβ
     refine repEls_of (n := r.size) (fun e he => hlen e (List.mem_of_mem_drop (List.mem_of_mem_take he))) fun k e hk => ?_
     rw [List.getElem?_take] at hk
     split at hk
     ·rw [List.getElem?_drop] at hk
      refine repCells_of fun j q hq => ?_
      have := fr_cell hI hp hid hr hβ hk hq
      rw [show off * r.size + k * r.size + j = (off + k) * r.size + j by rw [Nat.add_mul]]; exact this
     ·cases hk
    simp only [Rep]
    rw [hll]
    rcases h with ⟨rfl, A, n, cap, hβ, rfl⟩ | ⟨hpos, g, n, cap, A, hβ, hoc, rfl, ha⟩
    ·obtain ⟨c1, c2⟩ := hcap _ _ _ hβ
     refine ⟨A, cap, rfl, by omega, c2, ?_⟩
     rcases Nat.eq_zero_or_pos len with h0 | h0
     ·left; exact List.eq_nil_of_length_eq_zero (by rw [hll]; exact h0)
     ·right
      obtain ⟨g, cap', hβ'⟩ := own_form hI hr (by omega)
      rw [hβ] at hβ'
      simp only [Value.slice.injEq] at hβ'
      obtain ⟨rfl, rfl, rfl⟩ := hβ'
      exact ⟨g, 0, rfl, by simpa using els g _ _ hβ⟩
    ·obtain ⟨c1, c2⟩ := hcap _ _ _ hβ
     refine ⟨some A, cap - off, rfl, by omega, by omega, ?_⟩
     rcases ha with rfl | rfl
     ·left; exact List.eq_nil_of_length_eq_zero hll
     ·right; exact ⟨g, off * r.size, rfl, els g n cap hβ⟩
   ·simp [hv, pers1] at hpp
 | ptr id ver i j =>
  simp only [fz] at hpp ⊢
  have hid : id ∈ ids := hids id (by simp [ids1])
  cases hr : c.rows id with
  | none => simp [hr, pers1] at hpp
  | some r =>
   simp only [hr] at hpp ⊢
   by_cases hv : r.ver = ver
   ·simp only [hv, if_true] at hpp ⊢
    simp only [RepC] at h
    obtain ⟨g, n, cap, hβ, rfl⟩ := h.2 r hr hv
    simp only [Rep]
    refine ⟨g, i * r.size + j, rfl, repCells_of fun k q hq => ?_⟩
    rw [List.getElem?_drop] at hq
    cases hel : r.els[i]? with
    | none => simp [List.getD, hel] at hq
    | some el =>
     have hq' : el[j + k]? = some q := by simpa [List.getD, hel] using hq
     have := fr_cell hI hp hid hr hβ hel hq'
     rw [show i * r.size + j + k = i * r.size + (j + k) by omega]; exact this
   ·simp [hv, pers1] at hpp
 | nil =>
  simp only [RepC, Rep] at h
  subst h
  simp only [fz, Rep]
  exact ⟨none, 0, rfl, by simp, by simp [maxLen], .inl (by first | rfl | trivial)⟩
 | slx l =>
  simp only [fz]
  have := mono _ _ (show Rep c.S c.w (.slx l) v by simpa only [RepC] using h)
  simp only [Rep] at this ⊢
  obtain ⟨A, rfl, h1, h2⟩ := this
  exact ⟨A, l.length, rfl, Nat.le_refl _, h1, h2⟩
 | undef => simp [fz, pers1] at hpp
 | _ => simp only [fz]; exact mono _ _ (by simpa only [RepC] using h)
theorem pz_rep (hI : Inv w0 S0 c) {ids : List Nat} (hp : ∀ id ∈ ids, ∀ r, c.rows id = some r → ∀ e ∈ r.els, ∀ p ∈ e, pers1 p = true) {p : PV} {v : Value} (h : RepV c p v) (hids : ∀ id ∈ idsV p, id ∈ ids) (hpp : pers (pz c.rows p) = true) :
  Rep (frS c ids) c.w (pz c.rows p) v := by
 cases p with
 | ag l =>
  obtain ⟨vs, rfl, hvs⟩ := h
  simp only [pz, pers] at hpp ⊢
  simp only [Rep]
  refine ⟨vs, rfl, RepList_iff.2 (All2.of_get (by simp [hvs.length]) fun k q u hq hu => ?_)⟩
  simp at hq
  obtain ⟨q', hq', rfl⟩ := hq
  obtain ⟨u', h1, h2⟩ := hvs.get hq'
  rw [hu] at h1; cases h1
  refine fz_rep hI hp h2 (fun id hid => hids id ?_) (List.all_eq_true.1 hpp _ (by simp; exact ⟨q', List.mem_of_getElem? hq', rfl⟩))
  simp only [idsV, List.mem_flatMap]
  exact ⟨q', List.mem_of_getElem? hq', hid⟩
 | _ =>
  simp only [pz] at hpp ⊢
  refine fz_rep hI hp (by simpa only [RepV] using h) (fun id hid => hids id (by simpa only [idsV] using hid)) ?_
  revert hpp
  simp only [fz]
  first
   | (intro hpp; simpa only [pers] using hpp)
   | (split
      · split
        · intro _; rfl
        · intro hpp; exact hpp
      · intro hpp; exact hpp)
end
end Pm
namespace Pm
open Go Go.RowKit
theorem flatten_set {α : Type} {n : Nat} : ∀ {els : List (List α)}, (∀ e ∈ els, e.length = n) → ∀ {i : Nat} {el : List α}, els[i]? = some el → ∀ (j : Nat) (l : List α), j + l.length ≤ el.length →
  (els.set i (el.take j ++ l ++ el.drop (j + l.length))).flatten = els.flatten.take (i * n + j) ++ l ++ els.flatten.drop (i * n + j + l.length)
 | [], _, _, _, h, _, _, _ => by simp at h
 | q :: els, hn, 0, el, h, j, l, hjl => by
  simp at h
  subst h
  simp only [List.set_cons_zero, List.flatten_cons, Nat.zero_mul, Nat.zero_add]
  rw [List.take_append_of_le_length (by omega), List.drop_append_of_le_length hjl]
  simp
 | q :: els, hn, i + 1, el, h, j, l, hjl => by
  have hq : q.length = n := hn q (by simp)
  have ih := flatten_set (els := els) (n := n) (fun e he => hn e (by simp [he])) (i := i) (el := el) (by simpa using h) j l hjl
  simp only [List.set_cons_succ, List.flatten_cons, ih]
  have e1 : (i + 1) * n + j = q.length + (i * n + j) := by rw [hq, Nat.add_mul]; omega
  have e2 : (i + 1) * n + j + l.length = q.length + (i * n + j + l.length) := by omega
  rw [e1, show q.length + (i * n + j) + l.length = q.length + (i * n + j + l.length) by omega, List.take_length_add_append, List.drop_length_add_append]
  simp
def ystore (E : Env) (t : TypeId) (rows : Rows) (p x v : PV) (u : Option (Nat × Row)) : Prop :=
 (E.ty t).known = true ∧ v = .undef ∧
 match p with
 | .ptr id ver i j => ∃ r, rows id = some r ∧ r.ver = ver ∧ ∃ el, r.els[i]? = some el ∧ ∃ l, cellsS x = some l ∧ (∀ q ∈ l, one1 rows q) ∧ l.length = (E.ty t).size ∧ j + l.length ≤ el.length ∧
   u = some (id, { r with els := r.els.set i (el.take j ++ l ++ el.drop (j + l.length)) })
 | _ => False
def partsEls (n : Nat) : Nat → List (Nat × PV) → Option (List (List PV))
 | _, [] => some []
 | k, (i, p) :: ps =>
  match cellsS p with
  | some l => if i = k ∧ l.length = n then (partsEls n (k + 1) ps).map (l :: ·) else none
  | none => none
def ylit (t : TI) (rows : Rows) (len : Nat) (parts : List (Nat × PV)) (v : PV) : Prop :=
 match t with
 | .slice _ n _ _ => ∃ els, partsEls n 0 parts = some els ∧ len = els.length ∧ len ≤ 4096 ∧ n ≤ 4096 ∧ (∀ e ∈ els, ∀ p ∈ e, pers1 (fz rows p) = true ∧ one1 rows p) ∧ (∀ e ∈ els, ∀ p ∈ e, ids1 p = []) ∧ v = .slx (els.map fun e => e.map (fz rows))
 | _ => False
def Gs := PV × Value → Prop
instance : Membership (PV × Value) Gs := ⟨fun G p => G p⟩
def Gs.none : Gs := fun _ => False
theorem Gs.not_none {p : PV × Value} : ¬ p ∈ Gs.none := id
def RetG (P : Program) (f : FuncId) (args : List PV) (rows : Rows) (clk : Nat) (R : PV → Rows → Nat → Prop) : Prop :=
 (∃ fn c, P.funcs[f]? = some fn ∧ fn.body = some c ∧ (fn.name == "runtime.NumGoroutine") = false) ∧
 ∀ (w0 : World) (S0 : Stab) (c : Cx) (vs : List Value) (G : Gs), Inv w0 S0 c → c.rows = rows → (∀ v, c.used v → v < clk) → All2 (RepV c) args vs → (∀ p ∈ G, RepV c p.1 p.2) →
  Calls P f vs.toArray c.w fun e w' => ∃ v c' r clk', e = .returned v ∧ c'.w = w' ∧ Inv w0 S0 c' ∧ (∀ p ∈ G, RepV c' p.1 p.2) ∧ R r c'.rows clk' ∧ (∀ v, c'.used v → v < clk') ∧ RepV c' r v
def mutP (E : Env) : PV → Bool
 | .fn g _ => E.writes g
 | _ => false
def stepM (P : Program) (g : FuncId) (vals : List PV) (rows : Rows) (clk : Nat) (K : PV → Rows → Nat → Prop) : Prop :=
 ∃ R, RetG P g vals rows clk R ∧ ∀ r rows' clk', R r rows' clk' → K r rows' clk'
def ycallM (E : Env) (p : PV) (vals : List PV) (rows : Rows) (clk : Nat) (K : PV → Rows → Nat → Prop) : Prop :=
 match p with
 | .fn g [] => stepM E.P g vals rows clk K
 | _ => False
def ycall (E : Env) (f : PV) (args : List PV) (v : PV) : Prop :=
 match f with
 | .fn g caps => (args.all pers = true) ∧ Ret E.P g (args ++ caps) v
 | _ => False
def ys (E : Env) (op : Op) (ρ : Operand → PV) (rows : Rows) (v : PV) (u : Option (Nat × Row)) : Prop :=
 match op with
 | .store t p x => ystore E t rows (ρ p) (ρ x) v u
 | .buildSlice t len parts => ylit (E.ty t) rows len (parts.toList.map fun x => (x.1, ρ x.2)) v ∧ u = none
 | .call { callee := .value f, args := args, argTypes := _ } => u = none ∧ ycall E (ρ f) (args.toList.map fun x => pz rows (ρ x)) v ∧ (args.toList.flatMap fun x => idsV (ρ x)) = []
 | op => yv E op ρ rows v ∧ u = none
def applyU (rows : Rows) : Option (Nat × Row) → Rows
 | none => rows
 | some (id, r) => upd rows id (some r)
section
variable {E : Env} {c : Cx} {w0 : World} {S0 : Stab}
theorem ystore_run (hI : Inv w0 S0 c) {t : TypeId} {p x v : PV} {u : Option (Nat × Row)} {vp vx : Value} (hp : RepV c p vp) (hx : RepV c x vx) (h : ystore E t c.rows p x v u) :
  v = .undef ∧ ∃ w', (Instr.storeAt t vp vx).run E.P c.w = .ok () w' ∧ Inv w0 S0 { c with w := w', rows := applyU c.rows u } ∧ Adv c { c with w := w', rows := applyU c.rows u } := by
 obtain ⟨hk, rfl, h⟩ := h
 refine ⟨rfl, ?_⟩
 split at h
 ·rename_i id ver i j
  obtain ⟨r, hr, hver, el, hel, l, hl, hone, hlen, hjl, rfl⟩ := h
  simp only [RepV, RepC] at hp
  obtain ⟨g, n, cap, hβ, rfl⟩ := hp.2 r hr hver
  obtain ⟨⟨xs, hown, hrep, hxone⟩, hels, hnS, hpos⟩ := hI.row id r hr
  obtain ⟨hc1, hc2⟩ := cellsS_rep hx hl hone
  have hvl : vx.cells.toList.length = l.length := hc1.length.symm
  have hown0 := hown
  rw [hβ] at hown
  rcases hown.2 with ⟨h', _⟩ | ⟨g', cap', cur, h', hge, hg, hnc, hcm, hcs, htake⟩
  ·simp at h'
  ·simp only [Value.slice.injEq, Option.some.injEq, Addr.mk.injEq, and_true] at h'
   obtain ⟨rfl, rfl, rfl⟩ := h'
   have hi : i < r.els.length := (List.getElem?_eq_some_iff.1 hel).1
   have hel2 : el.length = r.size := hels el (List.mem_of_getElem? hel)
   have hmul : i * r.size + r.size ≤ r.els.length * r.size := by rw [← Nat.succ_mul]; exact Nat.mul_le_mul_right _ hi
   have hcapm : r.els.length * r.size ≤ cap * r.size := Nat.mul_le_mul_right _ hnc
   have hfit : i * r.size + j + l.length ≤ r.els.length * r.size := by omega
   have hst := run_storeCells_at E.P g (i * r.size + j) r.e vx.cells.toList 0 cur c.w hg (by rw [hvl]; omega) hc2
   obtain ⟨inf, _, hi1, _, hi2, _, _⟩ := ((E.ok t).zero hk).ok
   have hrun : (Instr.storeAt t (.pointer (some ⟨g, i * r.size + j, none⟩)) vx).run E.P c.w = .ok () (c.w.setRow g (cur.toList.take (i * r.size + j) ++ vx.cells.toList ++ cur.toList.drop (i * r.size + j + l.length)).toArray) := by
    have hsz : vx.cells.size = inf.size := by rw [hi2, ← hlen, ← hvl]; simp
    simp only [Instr.storeAt, Instr.sureAddr, Sem.run_bind, Sem.run_pure, Result.andThen_ok, storeVar, run_sizeOf' hi1, hsz]
    simp only [Nat.add_zero, hvl] at hst
    simpa using hst
   refine ⟨_, hrun, ?_⟩
   have hown' : (c.w.setRow g (cur.toList.take (i * r.size + j) ++ vx.cells.toList ++ cur.toList.drop (i * r.size + j + l.length)).toArray).ownsRow w0.heap.size r.e r.size (c.β id) (r.els.set i (el.take j ++ l ++ el.drop (j + l.length))).length
     (xs.take (i * r.size + j) ++ vx.cells.toList ++ xs.drop (i * r.size + j + l.length)) := by
    rw [hβ, List.length_set]
    refine ⟨?_, .inr ⟨g, cap, _, rfl, hge, setRow_heap _ g cur _ r.e _ hg, hnc, hcm, ?_, ?_⟩⟩
    ·have := hown.1
     simp [hvl]; omega
    ·simp [hvl]; omega
    ·rw [← htake]
     have hcur : cur.toList.length = cap * r.size := by simp [hcs]
     simp only
     rw [List.take_append, List.take_append]
     have e1 : List.take (r.els.length * r.size) (cur.toList.take (i * r.size + j)) = cur.toList.take (i * r.size + j) := by
      rw [List.take_take, Nat.min_eq_right (by omega)]
     have e2 : List.take (i * r.size + j) (cur.toList.take (r.els.length * r.size)) = cur.toList.take (i * r.size + j) := by
      rw [List.take_take, Nat.min_eq_left (by omega)]
     rw [e1, e2]
     have e3 : (cur.toList.take (i * r.size + j)).length = i * r.size + j := by rw [List.length_take]; omega
     rw [e3]
     have e4 : List.take (r.els.length * r.size - (i * r.size + j)) vx.cells.toList = vx.cells.toList := List.take_of_length_le (by rw [hvl]; omega)
     rw [e4]
     congr 1
     rw [List.length_append, e3, hvl, List.drop_take]
   have hrep' : All2 (RepC c) (r.els.set i (el.take j ++ l ++ el.drop (j + l.length))).flatten (xs.take (i * r.size + j) ++ vx.cells.toList ++ xs.drop (i * r.size + j + l.length)) := by
    rw [flatten_set hels hel j l hjl]
    exact ((hrep.take _).append hc1).append (hrep.drop _)
   have hg2 : c.w.grownBy (c.w.setRow g (cur.toList.take (i * r.size + j) ++ vx.cells.toList ++ cur.toList.drop (i * r.size + j + l.length)).toArray) (c.β id).ownBlock := by
    rw [hβ]
    exact ⟨rfl, rfl, rfl, by simp, fun k _ hk => setRow_other _ g k _ (fun e => hk (by simp [Value.ownBlock, e]))⟩
   exact hI.upd (r' := { r with els := r.els.set i (el.take j ++ l ++ el.drop (j + l.length)) }) hr hg2 hown' hrep' (by
    intro y hy
    simp only [List.mem_append] at hy
    rcases hy with (hy | hy) | hy
    ·exact hxone y (List.mem_of_mem_take hy)
    ·exact hc2 y hy
    ·exact hxone y (List.mem_of_mem_drop hy)) (by
    intro e he
    rcases List.mem_or_eq_of_mem_set he with he | rfl
    ·exact hels e he
    ·simp; omega) rfl rfl (by simp)
 ·exact h.elim
end
end Pm
namespace Pm
open Go Go.RowKit
section
variable {E : Env} {c : Cx} {w0 : World} {S0 : Stab}
theorem fill_row {n : Nat} : ∀ (vs : List (Nat × Value)) (k : Nat) (cells : Array Value), (∀ j x, vs[j]? = some x → x.1 = k + j ∧ x.2.cells.size = n) → cells.size = (k + vs.length) * n →
  ∃ cells', Instr.fill (fun i => some (i * n, n)) cells vs = some cells' ∧ cells'.toList = cells.toList.take (k * n) ++ vs.flatMap fun x => x.2.cells.toList
 | [], k, cells, _, hs => ⟨cells, rfl, by simp at hs; rw [List.take_of_length_le (by simp [hs])]; simp⟩
 | (i, v) :: vs, k, cells, h, hs => by
  obtain ⟨h1, h2⟩ := h 0 (i, v) (by simp)
  simp only [Nat.add_zero] at h1 h2
  subst h1
  have hfit : i * n + n ≤ cells.size := by
   rw [hs, List.length_cons, ← Nat.succ_mul]
   exact Nat.mul_le_mul_right _ (by omega)
  have hz3 : v.cells.toList.zipIdx = v.cells.zipIdx.toList := by simp
  have hfold := foldl_sets (i * n) v.cells.toList 0 cells (by simp [h2]; omega)
  have hsz : (List.foldl (fun cs (x : Value × Nat) => cs.setIfInBounds (i * n + x.2) x.1) cells v.cells.toList.zipIdx).size = cells.size := by
   have := congrArg List.length hfold
   simp only [Array.length_toList] at this
   rw [this]
   simp [h2]
   omega
  obtain ⟨cells', g1, g2⟩ := fill_row vs (i + 1) (List.foldl (fun cs (x : Value × Nat) => cs.setIfInBounds (i * n + x.2) x.1) cells v.cells.toList.zipIdx)
   (fun j x hx => by have := h (j + 1) x (by simpa using hx); exact ⟨by omega, this.2⟩) (by rw [hsz, hs, List.length_cons]; congr 1; omega)
  refine ⟨cells', ?_, ?_⟩
  ·simp only [Instr.fill]
   rw [if_neg (by simp [h2]; omega), ← g1, hz3, Array.foldl_toList]
  ·rw [g2, hfold]
   have e1 : (cells.toList.take (i * n + 0)).length = i * n := by rw [List.length_take]; simp; omega
   have e2 : v.cells.toList.length = n := by simp [h2]
   rw [show (i + 1) * n = i * n + n by rw [Nat.add_mul]; omega]
   rw [List.take_append, List.length_append, e1, e2, Nat.sub_self, List.take_zero, List.append_nil, List.take_of_length_le (by rw [List.length_append, e1, e2]; exact Nat.le_refl _)]
   simp [List.append_assoc]
theorem partsEls_spec {n : Nat} : ∀ {ps : List (Nat × PV)} {k : Nat} {els : List (List PV)}, partsEls n k ps = some els → els.length = ps.length ∧ (∀ e ∈ els, e.length = n) ∧ ∀ j x, ps[j]? = some x → x.1 = k + j ∧ ∃ e, els[j]? = some e ∧ cellsS x.2 = some e
 | [], k, els, h => by simp [partsEls] at h; subst h; simp
 | (i, p) :: ps, k, els, h => by
  simp only [partsEls] at h
  split at h
  ·rename_i l hl
   split at h
   ·rename_i hcond
    rw [Option.map_eq_some_iff] at h
    obtain ⟨els', h1, rfl⟩ := h
    obtain ⟨g1, g2, g3⟩ := partsEls_spec h1
    refine ⟨by simp [g1], fun e he => ?_, fun j x hx => ?_⟩
    ·simp at he
     rcases he with rfl | he
     ·exact hcond.2
     ·exact g2 e he
    ·match j with
     | 0 => simp at hx; subst hx; exact ⟨by simpa using hcond.1, l, by simp, hl⟩
     | j + 1 =>
      obtain ⟨q1, q2⟩ := g3 j x (by simpa using hx)
      exact ⟨by omega, by simpa using q2⟩
   ·cases h
  ·cases h
theorem Inv.newS (hI : Inv w0 S0 c) (o : Obj) : Inv w0 S0 { c with w := c.w.alloc o, S := fun b k => c.S b k ∨ b = c.w.heap.size } ∧ Adv c { c with w := c.w.alloc o, S := fun b k => c.S b k ∨ b = c.w.heap.size } := by
 have := hI.grow (w' := c.w.alloc o) (S' := fun b k => c.S b k ∨ b = c.w.heap.size) ((Below.refl _ _).alloc (Nat.le_refl _) o) (fun _ _ h => .inl h) (fun b k h => h.imp (fun h => h) fun h => by subst h; simp)
 exact this
theorem fz_noids {p : PV} {v : Value} (hI : Inv w0 S0 c) (h : RepC c p v) (hids : ids1 p = []) (hpp : pers1 (fz c.rows p) = true) : Rep c.S c.w (fz c.rows p) v := by
 have := fz_rep hI (ids := []) (by simp) h (by simp [hids]) hpp
 exact Rep.mono (fun b o h => by rcases h with h | ⟨id, hid, _⟩; exact h; cases hid) (fun _ _ _ => rfl) _ _ this
theorem yslice_lit_run (hI : Inv w0 S0 c) {t e : TypeId} {n bb len : Nat} {z : List PV} (hE : E.ty t = .slice e n bb z) {parts : Array (Nat × Operand)} {ρ : Operand → PV} {vρ : Operand → Value} (hρ : ∀ x, RepV c (ρ x) (vρ x))
  {els : List (List PV)} (hels : partsEls n 0 (parts.toList.map fun x => (x.1, ρ x.2)) = some els) (hlen : len = els.length) (hsm : len ≤ 4096) (hn : n ≤ 4096)
  (hpp : ∀ e ∈ els, ∀ p ∈ e, pers1 (fz c.rows p) = true ∧ one1 c.rows p) (hids : ∀ e ∈ els, ∀ p ∈ e, ids1 p = []) :
  ∃ v' c', (Instr.buildSlice t len (parts.map fun (i, x) => (i, vρ x))).run E.P c.w = .ok v' c'.w ∧ c'.rows = c.rows ∧ c'.used = c.used ∧ Inv w0 S0 c' ∧ Adv c c' ∧ RepV c' (.slx (els.map fun e => e.map (fz c.rows))) v' := by
 obtain ⟨hu, hnp, hzl, i, zv, hi, hz, hs, _, hzc, _⟩ := slice_info hE
 obtain ⟨g1, g2, g3⟩ := partsEls_spec hels
 have hplen : parts.size = els.length := by rw [g1]; simp
 have hzsz : zv.cells.size = n := by rw [← hzl, ← hzc]; simp
 have hpart : ∀ j (x : Nat × Value), ((parts.map fun (i, x) => (i, vρ x)).toList)[j]? = some x → x.1 = 0 + j ∧ ∃ e, els[j]? = some e ∧ All2 (RepC c) e x.2.cells.toList ∧ ∀ u ∈ x.2.cells.toList, u.oneCell' = true := by
  intro j x hx
  simp at hx
  obtain ⟨a, b, hab, rfl⟩ := hx
  obtain ⟨q1, e, q2, q3⟩ := g3 j (a, ρ b) (by simp; exact ⟨a, b, hab, rfl, rfl⟩)
  have q4 := cellsS_rep (hρ b) q3 (fun q hq => (hpp e (List.mem_of_getElem? q2) q hq).2)
  exact ⟨q1, e, q2, q4.1, q4.2⟩
 obtain ⟨cells', f1, f2⟩ := fill_row (n := n) (parts.map fun (i, x) => (i, vρ x)).toList 0 ((Array.range (len * n)).map (zv.cells[· % zv.cells.size]!)) (fun j x hx => by
  obtain ⟨q1, e, q2, q3, _⟩ := hpart j x hx
  refine ⟨q1, ?_⟩
  have := q3.length
  rw [g2 e (List.mem_of_getElem? q2)] at this
  simpa using this.symm) (by simp [hplen, hlen])
 simp only [Nat.zero_mul, List.take_zero, List.nil_append] at f2
 have hrun : (Instr.buildSlice t len (parts.map fun (i, x) => (i, vρ x))).run E.P c.w = .ok (.slice (some ⟨c.w.heap.size, 0, none⟩) len len) (c.w.alloc (.cells cells' e)) := by
  have hbound : ¬ (16777216 < len * n) := by
   have : len * n ≤ 4096 * 4096 := Nat.mul_le_mul hsm hn
   omega
  by_cases h0 : len * n = 0
  ·have hl0 : len = 0 := by
    rcases Nat.mul_eq_zero.1 h0 with h | h
    ·exact h
    ·omega
   have hp0 : parts = #[] := Array.eq_empty_of_size_eq_zero (by omega)
   subst hp0
   subst hl0
   simp [Instr.fill] at f1
   subst f1
   have hr0 : Array.range 0 = #[] := rfl
   simp [Instr.buildSlice, run_underlying hu, run_sizeOf' hi, newRow, Instr.fill, hr0]
  ·have f1' : Instr.fill (fun i => some (i * n, n)) ((Array.range (len * n)).map (zv.cells[· % zv.cells.size]!)) (parts.toList.map fun x => (x.1, vρ x.2)) = some cells' := by simpa using f1
   simp only [Instr.buildSlice, Sem.run_bind, run_underlying hu, Result.andThen_ok, run_sizeOf' hi, hs]
   simp [h0, hbound, newRow, zeroValue, typeInfo, hi, hz, f1']
 obtain ⟨hI', hA⟩ := hI.newS (.cells cells' e)
 refine ⟨_, { c with w := c.w.alloc (.cells cells' e), S := fun b k => c.S b k ∨ b = c.w.heap.size }, hrun, rfl, rfl, hI', hA, ?_⟩
 simp only [RepV, RepC, Rep]
 refine ⟨some ⟨c.w.heap.size, 0, none⟩, by rw [List.length_map, hlen], by rw [List.length_map, ← hlen]; simp [maxLen]; omega, .inr ⟨_, _, rfl, ?_⟩⟩
 refine repEls_of (n := n) (by
  intro e' he'
  simp at he'
  obtain ⟨e1, he1, rfl⟩ := he'
  simpa using g2 e1 he1) fun k el hk => ?_
 simp at hk
 obtain ⟨e1, he1, rfl⟩ := hk
 refine repCells_of fun j p hj => ?_
 simp at hj
 obtain ⟨q, hq, rfl⟩ := hj
 have hkl : k < els.length := (List.getElem?_eq_some_iff.1 he1).1
 obtain ⟨x, hx⟩ : ∃ x, ((parts.map fun (i, x) => (i, vρ x)).toList)[k]? = some x := ⟨_, List.getElem?_eq_getElem (by simp; omega)⟩
 obtain ⟨_, e2, q2, q3, q4⟩ := hpart k x hx
 rw [he1] at q2; cases q2
 obtain ⟨u, hu1, hu2⟩ := q3.get hq
 have hflat : cells'.toList[k * n + j]? = some u := by
  have e3 : cells'.toList = ((parts.map fun (i, x) => (i, vρ x)).toList.map fun x => x.2.cells.toList).flatten := by rw [f2, List.flatMap_def]
  rw [e3]
  refine flatten_get (n := n) (fun e he => ?_) (i := k) (e := x.2.cells.toList) (by rw [List.getElem?_map, hx]; rfl) hu1
  simp only [List.mem_map] at he
  obtain ⟨y, hy, rfl⟩ := he
  obtain ⟨k', hk'⟩ := List.getElem?_of_mem hy
  obtain ⟨_, e4, q5, q6, _⟩ := hpart k' y hk'
  rw [← q6.length]; exact g2 e4 (List.mem_of_getElem? q5)
 refine ⟨u, ?_, .inr rfl, q4 u (List.mem_of_getElem? hu1), ?_⟩
 ·have := heap_alloc_new c.w (.cells cells' e)
  rw [cell_of_row _ _ _ _ _ _ this]
  simpa using hflat
 ·exact Rep.mono hA.S hA.w _ _ (fz_noids hI hu2 (hids e1 (List.mem_of_getElem? he1) q (List.mem_of_getElem? hq)) (hpp e1 (List.mem_of_getElem? he1) q (List.mem_of_getElem? hq)).1)
end
end Pm
namespace Pm
open Go Go.RowKit
section
variable {E : Env} {c : Cx} {w0 : World} {S0 : Stab}
theorem callFunc_enter {P : Program} {g : FuncId} {fn : Func} {b : Code} (h1 : P.funcs[g]? = some fn) (h2 : fn.body = some b) (h3 : (fn.name == "runtime.NumGoroutine") = false) (args : Array Value) (w : World) :
  (callFunc g args).run P w = .ok (.enter g args) w := by
 simp only [callFunc, Sem.run_bind, program, Sem.run, Result.andThen_ok, h1, h2, h3]
 simp
theorem ycall_sound (hI : Inv w0 S0 c) {ids : List Nat} (hp : ∀ id ∈ ids, ∀ r, c.rows id = some r → ∀ e ∈ r.els, ∀ p ∈ e, pers1 p = true) {pf : PV} {vf : Value} {pargs : List PV} {vargs : List Value}
  (hf : RepV c pf vf) (hargs : All2 (RepV c) pargs vargs) (hids : ∀ p ∈ pargs, ∀ id ∈ idsV p, id ∈ ids) {v : PV} (h : ycall E pf (pargs.map (pz c.rows)) v) {K : Value → World → Prop}
  (hK : ∀ v' c', c'.rows = frR c.rows ids → c'.used = c.used → Adv c c' → Inv w0 S0 c' → RepV c' v v' → K v' c'.w) :
  ∃ g cs, vf = .func (.func g) #[] cs ∧ (callFunc g (vargs.toArray ++ cs)).run E.P c.w = .ok (.enter g (vargs.toArray ++ cs)) c.w ∧
   Calls E.P g (vargs.toArray ++ cs) c.w fun e w' => ∃ v', e = .returned v' ∧ K v' w' := by
 unfold ycall at h
 split at h
 ·rename_i g caps
  obtain ⟨hpers, ⟨fn, b, h1, h2, h3⟩, hret⟩ := h
  simp only [RepV, RepC, Rep] at hf
  obtain ⟨cs, rfl, hcs⟩ := hf
  refine ⟨g, cs.toArray, rfl, callFunc_enter h1 h2 h3 _ _, ?_⟩
  have hIf := hI.freeze ids
  have hlt : ∀ b o, frS c ids b o → b < c.w.heap.size := fun b o hb => hIf.lt (c := frC c ids) hb
  have hrep : RepList (frS c ids) c.w (pargs.map (pz c.rows) ++ caps) (vargs ++ cs) := by
   refine RepList_iff.2 (All2.append (All2.of_get (by simp [hargs.length]) fun k p u hp' hu => ?_) ?_)
   ·simp at hp'
    obtain ⟨q, hq, rfl⟩ := hp'
    obtain ⟨u', g1, g2⟩ := hargs.get hq
    rw [hu] at g1; cases g1
    exact pz_rep hI hp g2 (hids q (List.mem_of_getElem? hq)) (List.all_eq_true.1 hpers _ (by simp; exact ⟨q, List.mem_of_getElem? hq, rfl⟩))
   ·exact (RepList_iff.1 hcs).mono fun a b hab => Rep.mono (fun _ _ h => .inl h) (fun _ _ _ => rfl) a b hab
  have := hret c.w (frS c ids) (vargs ++ cs) hlt hrep
  rw [show (vargs ++ cs).toArray = vargs.toArray ++ cs.toArray by simp] at this
  refine this.mono ?_
  rintro e w' ⟨v', rfl, hb, S', g1, g2, g3⟩
  refine ⟨v', rfl, ?_⟩
  obtain ⟨hI2, hA2⟩ := hIf.grow (c := frC c ids) hb g1 g2
  have hA : Adv c { frC c ids with S := S', w := w' } := by
   have hA1 := frC_adv c ids
   exact ⟨fun b o h => g1 b o (hA1.S b o h), fun b o h => (hA2.w b o (hA1.S b o h)).trans (hA1.w b o h), fun _ h => h, hA1.rows⟩
  exact hK v' { frC c ids with S := S', w := w' } rfl rfl hA hI2 (RepV.of_rep g3)
 ·exact h.elim
structure RelU (w0 : World) (S0 : Stab) (n : Nat) (G : Gs) (U : Nat → Prop) (f : Nat → PV) (rows : Rows) (a : Act) (w : World) : Prop where
 ex : ∃ c : Cx, c.w = w ∧ c.rows = rows ∧ (∀ v, c.used v → U v) ∧ Inv w0 S0 c ∧ (∀ s, RepV c (f s) (a.tmps.getD s undef)) ∧ ∀ p ∈ G, RepV c p.1 p.2
 size : a.tmps.size = n
 defers : a.defers = []
abbrev Rel (w0 : World) (S0 : Stab) (n : Nat) (G : Gs) (σ : PS) (a : Act) (w : World) : Prop := RelU w0 S0 n G (fun v => v < σ.clock) σ.f σ.rows a w
theorem RelU.mono {w0 : World} {S0 : Stab} {n : Nat} {G : Gs} {U U' : Nat → Prop} {f : Nat → PV} {rows : Rows} {a : Act} {w : World} (hU : ∀ v, U v → U' v) (h : RelU w0 S0 n G U f rows a w) : RelU w0 S0 n G U' f rows a w := by
 obtain ⟨⟨c, h1, h2, h3, h4⟩, h5, h6⟩ := h
 exact ⟨⟨c, h1, h2, fun v hv => hU v (h3 v hv), h4⟩, h5, h6⟩
theorem relU_put {n : Nat} {G : Gs} {U : Nat → Prop} {f : Nat → PV} {a : Act} {c' : Cx} {v : PV} {v' : Value} {d : Option Tmp} (hf : ∀ s, RepV c (f s) (a.tmps.getD s undef)) (hG : ∀ p ∈ G, RepV c p.1 p.2) (hn : a.tmps.size = n) (hdef : a.defers = [])
  (hA : Adv c c') (hI : Inv w0 S0 c') (hv : RepV c' v v') (hd : ∀ t, d = some t → t < n) {f' : Nat → PV} {rows : Rows} (h1 : f' = put f d v) (h2 : rows = c'.rows) (h3 : ∀ v, c'.used v → U v) : RelU w0 S0 n G U f' rows (a.put d v') c'.w := by
 refine ⟨⟨c', rfl, h2.symm, h3, hI, fun s => ?_, fun p hp => RepV.adv hA _ _ (hG p hp)⟩, ?_, ?_⟩
 ·rw [h1]
  cases d with
  | none => exact RepV.adv hA _ _ (hf s)
  | some t =>
   simp only [put, Act.put]
   by_cases hs : s = t
   ·subst hs
    have : s < a.tmps.size := by rw [hn]; exact hd s rfl
    simpa [this] using hv
   ·rw [if_neg hs]
    have := RepV.adv hA _ _ (hf s)
    simpa [Array.getElem?_setIfInBounds_ne (Ne.symm hs)] using this
 ·cases d <;> simp [Act.put, hn]
 ·cases d <;> simp [Act.put, hdef]
theorem rel_put {n : Nat} {G : Gs} {f : Nat → PV} {a : Act} {c' : Cx} {v : PV} {v' : Value} {d : Option Tmp} (hf : ∀ s, RepV c (f s) (a.tmps.getD s undef)) (hG : ∀ p ∈ G, RepV c p.1 p.2) (hn : a.tmps.size = n) (hdef : a.defers = [])
  (hA : Adv c c') (hI : Inv w0 S0 c') (hv : RepV c' v v') (hd : ∀ t, d = some t → t < n) {σ : PS} (h1 : σ.f = put f d v) (h2 : σ.rows = c'.rows) (h3 : ∀ v, c'.used v → v < σ.clock) : Rel w0 S0 n G σ (a.put d v') c'.w :=
 relU_put hf hG hn hdef hA hI hv hd h1 h2 h3
theorem rel_putG {n : Nat} {G : Gs} {f : Nat → PV} {a : Act} {c' : Cx} {v : PV} {v' : Value} {d : Option Tmp} (hf : ∀ s, RepV c' (f s) (a.tmps.getD s undef)) (hG : ∀ p ∈ G, RepV c' p.1 p.2) (hn : a.tmps.size = n) (hdef : a.defers = [])
  (hI : Inv w0 S0 c') (hv : RepV c' v v') (hd : ∀ t, d = some t → t < n) {σ : PS} (h1 : σ.f = put f d v) (h2 : σ.rows = c'.rows) (h3 : ∀ v, c'.used v → v < σ.clock) : Rel w0 S0 n G σ (a.put d v') c'.w :=
 rel_put hf hG hn hdef (Adv.refl c') hI hv hd h1 h2 h3
theorem ys_sound {o : Oper} {a : Act} {f : Nat → PV} (hI : Inv w0 S0 c) (hf : ∀ s, RepV c (f s) (a.tmps.getD s undef)) {v : PV} {u : Option (Nat × Row)} (h : ys E o.op (evf f) c.rows v u)
  {K : Act → World → Prop} {Q : Exit → Act → World → Prop}
  (hK : ∀ v' c', c'.rows = applyU c.rows u → c'.used = c.used → Adv c c' → Inv w0 S0 c' → RepV c' v v' → K (a.put o.dst v') c'.w) : o.wp E.P a c.w K Q := by
 have hρ := evf_rep hf
 have plain : yv E o.op (evf f) c.rows v ∧ u = none → o.wp E.P a c.w K Q := by
  rintro ⟨hv, rfl⟩
  obtain ⟨v', h1, h2⟩ := yv_run hI hf hv
  unfold Oper.wp
  rw [h1]
  exact hK v' c rfl rfl (Adv.refl c) hI h2
 obtain ⟨dst, op, type, pos, after, guard⟩ := o
 simp only at h hK plain
 unfold ys at h
 split at h
 ·rename_i t p x
  obtain ⟨rfl, w', h1, h2, h3⟩ := ystore_run hI (hρ p) (hρ x) h
  unfold Oper.wp
  have : (execOp a.eval { dst := dst, op := .store t p x, type := type, pos := pos, after := after, guard := guard }).run E.P c.w = .ok .skip w' := by simp [execOp, h1]
  rw [this]
  exact hK undef { c with w := w', rows := applyU c.rows u } rfl rfl h3 h2 (by simp [RepV, RepC])
 ·rename_i t len parts
  obtain ⟨h, rfl⟩ := h
  unfold ylit at h
  split at h
  ·rename_i e n bb z hE
   obtain ⟨els, h1, h2, h3, h4, h5, h6, rfl⟩ := h
   obtain ⟨v', c', g1, g2, g3, g4, g5, g6⟩ := yslice_lit_run hI hE hρ h1 h2 h3 h4 h5 h6
   unfold Oper.wp
   have : (execOp a.eval { dst := dst, op := .buildSlice t len parts, type := type, pos := pos, after := after, guard := guard }).run E.P c.w = .ok (.value v') c'.w := by
    simp only [execOp, Sem.run_bind, g1, Result.andThen_ok, Sem.run_pure]
   rw [this]
   exact hK v' c' g2 g3 g5 g4 g6
  ·exact h.elim
 ·rename_i fo args ts
  obtain ⟨rfl, hc, hids⟩ := h
  have hargs : All2 (RepV c) (args.toList.map fun x => evf f x) (args.map a.eval).toList := by
   refine All2.of_get (by simp) fun k p u hp hu => ?_
   simp at hp hu
   obtain ⟨x, hx, rfl⟩ := hp
   obtain ⟨y, hy, rfl⟩ := hu
   rw [hx] at hy; cases hy
   exact hρ x
  have hc' : ycall E (evf f fo) ((args.toList.map fun x => evf f x).map (pz c.rows)) v := by rw [List.map_map]; exact hc
  obtain ⟨g, cs, h1, h2, h3⟩ := ycall_sound hI (ids := []) (by simp) (hρ fo) hargs (by
   intro p hp id hid
   simp at hp
   obtain ⟨x, hx, rfl⟩ := hp
   have : id ∈ args.toList.flatMap fun x => idsV (evf f x) := by simp only [List.mem_flatMap]; exact ⟨x, by simpa using hx, hid⟩
   rw [hids] at this; exact this) hc' (K := fun v' w' => K (a.put dst v') w') (fun v' c' q1 q2 q3 q4 q5 => hK v' c' (by rw [q1]; funext j; simp [frR, applyU]) q2 q3 q4 q5)
  unfold Oper.wp
  have hrun : (execOp a.eval { dst := dst, op := .call { callee := .value fo, args := args, argTypes := ts }, type := type, pos := pos, after := after, guard := guard }).run E.P c.w = .ok (.enter g (args.map a.eval ++ cs)) c.w := by
   simp only [execOp, resolve, h1, Deferred.ofValue, Sem.run_bind, Sem.run_pure, Result.andThen_ok, invoke]
   simp only [Array.toArray_toList] at h2
   simpa only [Array.empty_append] using h2
  rw [hrun]
  simp only [Array.toArray_toList] at h3
  exact h3.mono fun e w' ⟨v', he, hk⟩ => by subst he; exact hk
 ·exact plain h
end
end Pm
namespace Pm
open Go Go.RowKit
def room : Nat := 140737488355328
def ysrc (rows : Rows) (y : PV) (l : List (List PV)) : Prop :=
 match y with
 | .nil => l = []
 | .sl k => l = k
 | .slx k => l = k
 | .own id ver off len => ∃ r, rows id = some r ∧ r.ver = ver ∧ l = (r.els.drop off).take len
 | _ => False
def rowsPers (rows : Rows) (ids : List Nat) : Prop := ∀ id ∈ ids, ∀ r, rows id = some r → ∀ e ∈ r.els, ∀ p ∈ e, pers1 p = true
def pnew (K : PS → Prop) (σ : PS) (d : Option Tmp) (v : PV) (id : Nat) (e : TypeId) (n : Nat) (els : List (List PV)) : Prop :=
 K ⟨put σ.f d v, upd σ.rows id (some ⟨σ.clock, e, n, els⟩), σ.clock + 1⟩
def pappend (E : Env) (o : Oper) (t : TypeId) (x y : PV) (K : PS → Prop) (σ : PS) : Prop :=
 match E.ty t with
 | .slice e n b _ =>
  ∃ l, ysrc σ.rows y l ∧ (∀ e ∈ l, e.length = n) ∧
  match x with
  | .nil => l.length ≤ room ∧ l.length * b ≤ room ∧ pnew K σ o.dst (.own (o.dst.getD 0) σ.clock 0 l.length) (o.dst.getD 0) e n l
  | .own id ver off len => ∃ r, σ.rows id = some r ∧ r.ver = ver ∧ off = 0 ∧ len = r.els.length ∧ r.e = e ∧ r.size = n ∧ len + l.length ≤ room ∧ (len + l.length) * b ≤ room ∧
    pnew K σ o.dst (.own id σ.clock 0 (len + l.length)) id e n (r.els ++ l)
  | .slx l0 => (∀ e ∈ l0, e.length = n) ∧ (∀ e ∈ l, ∀ p ∈ e, pers1 p = true) ∧ l0.length + l.length ≤ room ∧ (l0.length + l.length) * b ≤ room ∧ K (σ.put o.dst (.sl (l0 ++ l)))
  | _ => False
 | _ => False
def pnewN (K : Nat → (Nat → PV) → Rows → Prop) (ver : Nat) (f : Nat → PV) (rows : Rows) (d : Option Tmp) (v : PV) (id : Nat) (e : TypeId) (n : Nat) (els : List (List PV)) : Prop :=
 K 1 (put f d v) (upd rows id (some ⟨ver, e, n, els⟩))
def pappendN (E : Env) (ver : Nat) (o : Oper) (t : TypeId) (x y : PV) (K : Nat → (Nat → PV) → Rows → Prop) (f : Nat → PV) (rows : Rows) : Prop :=
 match E.ty t with
 | .slice e n b _ =>
  ∃ l, ysrc rows y l ∧ (∀ e ∈ l, e.length = n) ∧
  match x with
  | .nil => l.length ≤ room ∧ l.length * b ≤ room ∧ pnewN K ver f rows o.dst (.own (o.dst.getD 0) ver 0 l.length) (o.dst.getD 0) e n l
  | .own id ver0 off len => ∃ r, rows id = some r ∧ r.ver = ver0 ∧ off = 0 ∧ len = r.els.length ∧ r.e = e ∧ r.size = n ∧ len + l.length ≤ room ∧ (len + l.length) * b ≤ room ∧
    pnewN K ver f rows o.dst (.own id ver 0 (len + l.length)) id e n (r.els ++ l)
  | .slx l0 => (∀ e ∈ l0, e.length = n) ∧ (∀ e ∈ l, ∀ p ∈ e, pers1 p = true) ∧ l0.length + l.length ≤ room ∧ (l0.length + l.length) * b ≤ room ∧ K 0 (put f o.dst (.sl (l0 ++ l))) rows
  | _ => False
 | _ => False
def slT : TI → Bool
 | .slice .. => true
 | _ => false
def pfree (E : Env) (o : Oper) (K : PS → Prop) (σ : PS) : Prop :=
 match o.op with
 | .alloc t => (E.ty t).known = true ∧ pnew K σ o.dst (.ptr (o.dst.getD 0) σ.clock 0 0) (o.dst.getD 0) t (E.ty t).size [(E.ty t).zero]
 | .box t x => (E.ty t).known = true ∧ ∃ l, cellsS (evf σ.f x) = some l ∧ (∀ q ∈ l, one1 σ.rows q) ∧ l.length = (E.ty t).size ∧ pnew K σ o.dst (.ptr (o.dst.getD 0) σ.clock 0 0) (o.dst.getD 0) t (E.ty t).size [l]
 | .makeSlice t l c =>
  match E.ty t, evf σ.f l, evf σ.f c with
  | .slice e n b z, .int _ x, .int _ y => 0 ≤ x ∧ x ≤ y ∧ y.toNat ≤ room ∧ y.toNat * b ≤ room ∧ pnew K σ o.dst (.own (o.dst.getD 0) σ.clock 0 x.toNat) (o.dst.getD 0) e n (List.replicate x.toNat z)
  | _, _, _ => False
 | .call { callee := .builtin .append, args := ⟨[x, y]⟩, argTypes := ⟨[t, t2]⟩ } => (t2 = t ∨ slT (E.ty t2) = true) ∧ pappend E o t (evf σ.f x) (evf σ.f y) K σ
 | .call { callee := .builtin .copy, args := ⟨[x, y]⟩, argTypes := ⟨[t, _]⟩ } =>
  match E.ty t, evf σ.f x with
  | .slice _ n _ _, .own id ver off len => n = 1 ∧ ∃ r, σ.rows id = some r ∧ r.ver = ver ∧ r.size = n ∧ off + len ≤ r.els.length ∧ 0 < len ∧ ∃ l, ysrc σ.rows (evf σ.f y) l ∧ (∀ e ∈ l, e.length = n) ∧
    K ⟨put σ.f o.dst (.int .i64 (min l.length len)), upd σ.rows id (some { r with els := r.els.take off ++ l.take len ++ r.els.drop (off + min l.length len) }), σ.clock⟩
  | _, _ => False
 | .call { callee := .value f, args := args, argTypes := _ } => if mutP E (evf σ.f f) = true then ycallM E (evf σ.f f) (args.toList.map (evf σ.f)) σ.rows σ.clock (fun v rows clk => K ⟨put σ.f o.dst v, rows, clk⟩)
   else ∃ v, ycall E (evf σ.f f) (args.toList.map fun x => pz σ.rows (evf σ.f x)) v ∧ rowsPers σ.rows (args.toList.flatMap fun x => idsV (evf σ.f x)) ∧
   K ⟨put σ.f o.dst v, frR σ.rows (args.toList.flatMap fun x => idsV (evf σ.f x)), σ.clock⟩
 | .makeFunc (.func f) ⟨[]⟩ caps => (caps.toList.map fun x => pz σ.rows (evf σ.f x)).all pers = true ∧ rowsPers σ.rows (caps.toList.flatMap fun x => idsV (evf σ.f x)) ∧
   K ⟨put σ.f o.dst (.fn f (caps.toList.map fun x => pz σ.rows (evf σ.f x))), frR σ.rows (caps.toList.flatMap fun x => idsV (evf σ.f x)), σ.clock⟩
 | _ => ∃ v u, ys E o.op (evf σ.f) σ.rows v u ∧ K ⟨put σ.f o.dst v, applyU σ.rows u, σ.clock⟩
def pfreeN (E : Env) (ver : Nat) (o : Oper) (K : Nat → (Nat → PV) → Rows → Prop) (f : Nat → PV) (rows : Rows) : Prop :=
 match o.op with
 | .alloc t => (E.ty t).known = true ∧ pnewN K ver f rows o.dst (.ptr (o.dst.getD 0) ver 0 0) (o.dst.getD 0) t (E.ty t).size [(E.ty t).zero]
 | .box t x => (E.ty t).known = true ∧ ∃ l, cellsS (evf f x) = some l ∧ (∀ q ∈ l, one1 rows q) ∧ l.length = (E.ty t).size ∧ pnewN K ver f rows o.dst (.ptr (o.dst.getD 0) ver 0 0) (o.dst.getD 0) t (E.ty t).size [l]
 | .makeSlice t l c =>
  match E.ty t, evf f l, evf f c with
  | .slice e n b z, .int _ x, .int _ y => 0 ≤ x ∧ x ≤ y ∧ y.toNat ≤ room ∧ y.toNat * b ≤ room ∧ pnewN K ver f rows o.dst (.own (o.dst.getD 0) ver 0 x.toNat) (o.dst.getD 0) e n (List.replicate x.toNat z)
  | _, _, _ => False
 | .call { callee := .builtin .append, args := ⟨[x, y]⟩, argTypes := ⟨[t, t2]⟩ } => (t2 = t ∨ slT (E.ty t2) = true) ∧ pappendN E ver o t (evf f x) (evf f y) K f rows
 | _ => False
theorem room_max {n : Nat} (h : n ≤ room) : n ≤ maxLen := by unfold room at h; simp only [maxLen]; omega
theorem replicate_flatten_get {α : Type} {z : List α} : ∀ {x k : Nat} {a : α}, (List.replicate x z).flatten[k]? = some a → z[k % z.length]? = some a
 | 0, k, a, h => by simp at h
 | x + 1, k, a, h => by
  rw [List.replicate_succ, List.flatten_cons] at h
  rcases Nat.lt_or_ge k z.length with hk | hk
  ·rw [List.getElem?_append_left hk] at h
   rw [Nat.mod_eq_of_lt hk]; exact h
  ·rw [List.getElem?_append_right hk] at h
   have := replicate_flatten_get h
   rw [← Nat.mod_eq_sub_mod hk] at this; exact this
section
variable {E : Env} {c : Cx} {w0 : World} {S0 : Stab}
theorem ysrc_cells (hI : Inv w0 S0 c) {y : PV} {vy : Value} {l : List (List PV)} {n : Nat} (hy : RepV c y vy) (h : ysrc c.rows y l) (hn : ∀ e ∈ l, e.length = n) :
  ∃ A cap news, vy = .slice A l.length cap ∧ news.length = l.length * n ∧ All2 (RepC c) l.flatten news ∧ (∀ u ∈ news, u.oneCell' = true) ∧ (A = none → l = []) ∧
   ∀ a, A = some a → ∀ j u, news[j]? = some u → c.w.cell? (a.add j) = some u := by
 have fl : ∀ {l : List (List PV)}, (∀ e ∈ l, e.length = n) → l.flatten.length = l.length * n := by
  intro l
  induction l with
  | nil => intro _; simp
  | cons e l ih => intro h; rw [List.flatten_cons, List.length_append, ih (fun e he => h e (by simp [he])), h e (by simp), List.length_cons, Nat.add_mul]; omega
 have at_ : ∀ (g o cap : Nat), vy = .slice (some ⟨g, o, none⟩) l.length cap →
   (∀ k e, l[k]? = some e → ∀ j p, e[j]? = some p → ∃ v, c.w.cell? ⟨g, o + (k * n + j), none⟩ = some v ∧ v.oneCell' = true ∧ RepC c p v) → ∃ A cap news, vy = .slice A l.length cap ∧ news.length = l.length * n ∧ All2 (RepC c) l.flatten news ∧ (∀ u ∈ news, u.oneCell' = true) ∧ (A = none → l = []) ∧
   ∀ a, A = some a → ∀ j u, news[j]? = some u → c.w.cell? (a.add j) = some u := by
  intro g o cap hv hc
  have cellAt : ∀ k, k < l.length * n → ∃ p v, l.flatten[k]? = some p ∧ c.w.cell? ⟨g, o + k, none⟩ = some v ∧ v.oneCell' = true ∧ RepC c p v := by
   intro k hk
   have hn0 : 0 < n := by
    rcases Nat.eq_zero_or_pos n with h | h
    ·subst h; simp at hk
    ·exact h
   have hq : k / n < l.length := (Nat.div_lt_iff_lt_mul hn0).2 hk
   have he := hn l[k / n] (List.getElem_mem hq)
   have hj : k % n < l[k / n].length := by rw [he]; exact Nat.mod_lt _ hn0
   have hdm : k / n * n + k % n = k := by rw [Nat.mul_comm]; exact Nat.div_add_mod k n
   obtain ⟨v, h1, h2, h3⟩ := hc (k / n) _ (List.getElem?_eq_getElem hq) (k % n) _ (List.getElem?_eq_getElem hj)
   rw [hdm] at h1
   have := flatten_get hn (List.getElem?_eq_getElem hq) (List.getElem?_eq_getElem hj)
   rw [hdm] at this
   exact ⟨_, v, this, h1, h2, h3⟩
  have hnl : ((List.range (l.length * n)).map fun k => (c.w.cell? ⟨g, o + k, none⟩).getD undef).length = l.length * n := by simp
  have hget : ∀ k u, ((List.range (l.length * n)).map fun k => (c.w.cell? ⟨g, o + k, none⟩).getD undef)[k]? = some u → k < l.length * n ∧ ∃ p, l.flatten[k]? = some p ∧ c.w.cell? ⟨g, o + k, none⟩ = some u ∧ u.oneCell' = true ∧ RepC c p u := by
   intro k u hu
   have hk : k < l.length * n := by rw [← hnl]; exact (List.getElem?_eq_some_iff.1 hu).1
   obtain ⟨p, v, h1, h2, h3, h4⟩ := cellAt k hk
   rw [List.getElem?_map, List.getElem?_range hk] at hu
   simp only [Option.map_some, h2, Option.getD_some, Option.some.injEq] at hu
   subst hu
   exact ⟨hk, p, h1, h2, h3, h4⟩
  refine ⟨some ⟨g, o, none⟩, cap, _, hv, hnl, All2.of_get (by rw [hnl, fl hn]) fun k p u hp hu => ?_, fun u hu => ?_, by simp, fun a ha j u hu => ?_⟩
  ·obtain ⟨_, p', h1, _, _, h4⟩ := hget k u hu
   rw [hp] at h1; cases h1; exact h4
  ·obtain ⟨k, hk⟩ := List.getElem?_of_mem hu
   exact (hget k u hk).2.choose_spec.2.2.1
  ·cases ha
   rw [addr_add]
   exact (hget j u hu).2.choose_spec.2.1
 have empty : ∀ A cap, vy = .slice A l.length cap → l = [] → ∃ A cap news, vy = .slice A l.length cap ∧ news.length = l.length * n ∧ All2 (RepC c) l.flatten news ∧ (∀ u ∈ news, u.oneCell' = true) ∧ (A = none → l = []) ∧
   ∀ a, A = some a → ∀ j u, news[j]? = some u → c.w.cell? (a.add j) = some u := by
  rintro A cap hv rfl
  exact ⟨A, cap, [], hv, by simp, trivial, by simp, by simp, by simp⟩
 unfold ysrc at h
 split at h
 ·subst h
  simp only [RepV, RepC, Rep] at hy
  exact empty none 0 (by rw [hy]; rfl) rfl
 ·subst h
  simp only [RepV, RepC, Rep] at hy
  obtain ⟨A, cap, rfl, _, _, hh⟩ := hy
  rcases hh with hh | ⟨g, o, rfl, hr⟩
  ·exact empty A cap rfl hh
  ·refine at_ g o cap rfl fun k e hk j p hj => ?_
   obtain ⟨v, h1, _, h3, h4⟩ := repCells_get (repEls_get hr hn hk) hj
   exact ⟨v, by rw [← Nat.add_assoc]; exact h1, h3, RepC.of_rep h4⟩
 ·subst h
  simp only [RepV, RepC, Rep] at hy
  obtain ⟨A, rfl, _, hh⟩ := hy
  rcases hh with hh | ⟨g, o, rfl, hr⟩
  ·exact empty A _ rfl hh
  ·refine at_ g o _ rfl fun k e hk j p hj => ?_
   obtain ⟨v, h1, _, h3, h4⟩ := repCells_get (repEls_get hr hn hk) hj
   exact ⟨v, by rw [← Nat.add_assoc]; exact h1, h3, RepC.of_rep h4⟩
 ·rename_i id ver off len
  obtain ⟨r, hr, hver, rfl⟩ := h
  simp only [RepV, RepC] at hy
  obtain ⟨hle, hy⟩ := hy.2 r hr hver
  have hll : ((r.els.drop off).take len).length = len := by simp; omega
  rw [← hll] at hy
  have hsz : ∀ k e, ((r.els.drop off).take len)[k]? = some e → r.els[off + k]? = some e ∧ r.size = n := by
   intro k e hk
   have hk' := hk
   rw [List.getElem?_take] at hk
   split at hk
   ·rw [List.getElem?_drop] at hk
    refine ⟨hk, ?_⟩
    rw [← hn e (List.mem_of_getElem? hk')]
    exact ((hI.row id r hr).len e (List.mem_of_getElem? hk)).symm
   ·cases hk
  rcases hy with ⟨h0, A, m, cap, hβ, rfl⟩ | ⟨hpos, g, m, cap, A, hβ, hoc, rfl, ha⟩
  ·subst h0
   rcases Nat.eq_zero_or_pos len with h0 | h0
   ·exact empty A cap rfl (List.eq_nil_of_length_eq_zero (by rw [hll]; exact h0))
   ·obtain ⟨g, cap', hβ'⟩ := own_form hI hr (by omega)
    rw [hβ] at hβ'
    simp only [Value.slice.injEq] at hβ'
    obtain ⟨rfl, rfl, rfl⟩ := hβ'
    refine at_ g 0 _ rfl fun k e hk j p hj => ?_
    obtain ⟨hk2, hs⟩ := hsz k e hk
    have := row_cell hI hr hβ hk2 hj
    rw [hs] at this
    simpa using this
  ·rcases ha with ha | rfl
   ·exact empty _ _ rfl (List.eq_nil_of_length_eq_zero ha)
   ·refine at_ g _ _ rfl fun k e hk j p hj => ?_
    obtain ⟨hk2, hs⟩ := hsz k e hk
    have := row_cell hI hr hβ hk2 hj
    rw [hs] at this ⊢
    rw [show off * n + (k * n + j) = (off + k) * n + j by rw [Nat.add_mul]; omega]; exact this
 ·exact h.elim
end
end Pm
namespace Pm
open Go Go.RowKit
section
variable {E : Env} {c : Cx} {w0 : World} {S0 : Stab}
theorem new_block (hI : Inv w0 S0 c) {ver : Nat} (hfr : ¬ c.used ver) (id : Nat) (e : TypeId) (size n cap : Nat) (els : List (List PV)) (cells : Array Value) (hn : els.length = n) (hnc : n ≤ cap) (hcm : cap ≤ maxLen) (hsz : cells.size = cap * size)
  (hrep : All2 (RepC c) els.flatten (cells.toList.take (n * size))) (hone : ∀ u ∈ cells.toList, u.oneCell' = true) (hlen : ∀ e ∈ els, e.length = size) (hpos : 0 < size) :
  Inv w0 S0 { c with w := c.w.alloc (.cells cells e), β := upd c.β id (.slice (some ⟨c.w.heap.size, 0, none⟩) n cap), rows := upd c.rows id (some ⟨ver, e, size, els⟩), used := fun v => v = ver ∨ c.used v } ∧
  Adv c { c with w := c.w.alloc (.cells cells e), β := upd c.β id (.slice (some ⟨c.w.heap.size, 0, none⟩) n cap), rows := upd c.rows id (some ⟨ver, e, size, els⟩), used := fun v => v = ver ∨ c.used v } := by
 refine hI.set (ob := none) (r' := ⟨ver, e, size, els⟩) (xs := cells.toList.take (n * size)) (World.grownBy_alloc c.w _ none) (by simp) ?_ hrep (fun x hx => hone x (List.mem_of_mem_take hx)) hlen hpos ?_ hfr
 ·have hle : n * size ≤ cap * size := Nat.mul_le_mul_right _ hnc
  refine ⟨by simp [hn]; omega, .inr ⟨c.w.heap.size, cap, cells, by simp [hn], hI.below.size, heap_alloc_new c.w _, by simp [hn]; exact hnc, hcm, hsz, by simp [hn]⟩⟩
 ·intro g hg
  simp [Value.ownBlock] at hg
  exact .inr (by omega)
theorem zero_rep {t : TypeId} {n : Nat} {z : List PV} (h : ZeroOK E.P t n z) : ∃ i v, E.P.info? t = some i ∧ i.zero = some v ∧ i.size = n ∧ All2 (RepC c) z v.cells.toList ∧ v.cells.size = n ∧ ∀ u ∈ v.cells.toList, u.oneCell' = true := by
 obtain ⟨i, v, h1, h2, h3, h4, h5⟩ := h.ok
 have hl : v.cells.size = n := by rw [← h.len, ← h4]; simp
 refine ⟨i, v, h1, h2, h3, ?_, hl, fun u hu => (Array.all_eq_true_iff_forall_mem.1 h5) u (by simpa using hu)⟩
 rw [← h4]
 refine All2.of_get (by simp) fun k a b ha hb => ?_
 simp at ha
 obtain ⟨u, hu, rfl⟩ := ha
 have : v.cells.toList[k]? = some u := by simpa using hu
 rw [this] at hb; cases hb
 exact constC_rep _
theorem repV_new {c' : Cx} {id ver n : Nat} {r : Row} (hr : c'.rows id = some r) (hn : r.els.length = n) (hc : c'.used ver) {A : Option Addr} {cap : Nat} (hβ : c'.β id = .slice A n cap) : RepV c' (.own id ver 0 n) (.slice A n cap) := by
 simp only [RepV, RepC]
 refine ⟨hc, fun r' hr' _ => ?_⟩
 rw [hr] at hr'; cases hr'
 exact ⟨by omega, .inl ⟨by first | rfl | trivial, A, n, cap, hβ, rfl⟩⟩
theorem repV_ptr {c' : Cx} {id ver : Nat} (hc : c'.used ver) {g n cap : Nat} (hβ : c'.β id = .slice (some ⟨g, 0, none⟩) n cap) : RepV c' (.ptr id ver 0 0) (.pointer (some ⟨g, 0, none⟩)) := by
 simp only [RepV, RepC]
 exact ⟨hc, fun r' _ _ => ⟨g, n, cap, hβ, by simp⟩⟩
theorem madeCells_get {z : Array Value} {N k : Nat} (hk : k < N) (hz : 0 < z.size) : (madeCells z N).toList[k]? = z.toList[k % z.size]? := by
 have hm : k % z.size < z.size := Nat.mod_lt _ hz
 simp [madeCells, hk, hm]
variable {n : Nat} {G : Gs}
theorem pnew_rel {U : Nat → Prop} {ver : Nat} {f : Nat → PV} {rows : Rows} {a : Act} (hr : c.rows = rows) (hcl : ∀ v, c.used v → U v) (hf : ∀ s, RepV c (f s) (a.tmps.getD s undef)) (hG : ∀ p ∈ G, RepV c p.1 p.2) (hn : a.tmps.size = n) (hdef : a.defers = [])
  {K : (Nat → PV) → Rows → Prop} {d : Option Tmp} {v : PV} {id : Nat} {e : TypeId} {sz : Nat} {els : List (List PV)} (h : K (put f d v) (upd rows id (some ⟨ver, e, sz, els⟩))) {v' : Value} {w' : World} {b' : Value}
  (hI : Inv w0 S0 { c with w := w', β := upd c.β id b', rows := upd c.rows id (some ⟨ver, e, sz, els⟩), used := fun v => v = ver ∨ c.used v })
  (hA : Adv c { c with w := w', β := upd c.β id b', rows := upd c.rows id (some ⟨ver, e, sz, els⟩), used := fun v => v = ver ∨ c.used v })
  (hv : RepV { c with w := w', β := upd c.β id b', rows := upd c.rows id (some ⟨ver, e, sz, els⟩), used := fun v => v = ver ∨ c.used v } v v') (hd : ∀ t, d = some t → t < n) :
  ∃ f' rows', K f' rows' ∧ RelU w0 S0 n G (fun v => v = ver ∨ U v) f' rows' (a.put d v') w' := by
 refine ⟨_, _, h, ?_⟩
 have := relU_put (U := fun v => v = ver ∨ U v) (f' := put f d v) (rows := upd rows id (some ⟨ver, e, sz, els⟩)) hf hG hn hdef hA hI hv hd rfl (by simp [hr]) (fun v hv => hv.imp (fun h => h) (hcl v))
 exact this
theorem grown_pers (hI : Inv w0 S0 c) {w' : World} (hg : c.w.grownBy w' none) {e : TypeId} {sz : Nat} {v' : Value} {els : List (List PV)} {xs : List Value} (hown : w'.ownsRow c.w.heap.size e sz v' els.length xs)
  (hrep : All2 (Rep c.S c.w) els.flatten xs) (hone : ∀ u ∈ xs, u.oneCell' = true) (hlen : ∀ e ∈ els, e.length = sz) :
  ∃ c', c'.w = w' ∧ c'.rows = c.rows ∧ c'.used = c.used ∧ Inv w0 S0 c' ∧ Adv c c' ∧ RepV c' (.sl els) v' := by
 have hb : Below c.w.heap.size c.w w' := ⟨hg.os, hg.tape, hg.output, hg.size, fun k hk => hg.block k hk (by simp)⟩
 obtain ⟨hI', hA⟩ := hI.grow (S' := fun b o => c.S b o ∨ (c.w.heap.size ≤ b ∧ b < w'.heap.size)) hb (fun _ _ h => .inl h) (fun _ _ h => h)
 refine ⟨{ c with S := fun b o => c.S b o ∨ (c.w.heap.size ≤ b ∧ b < w'.heap.size), w := w' }, rfl, rfl, rfl, hI', hA, ?_⟩
 simp only [RepV, RepC, Rep]
 rcases hown.2 with ⟨rfl, h0⟩ | ⟨g, cap, cur, rfl, hge, hh, hnc, hcm, hcs, htake⟩
 ·exact ⟨none, 0, by rw [h0], by omega, by simp [maxLen], .inl (List.eq_nil_of_length_eq_zero h0)⟩
 ·refine ⟨_, cap, rfl, hnc, hcm, .inr ⟨g, 0, rfl, repEls_of hlen fun k el hk => repCells_of fun j p hj => ?_⟩⟩
  have hf := flatten_get hlen hk hj
  obtain ⟨u, hu, hr⟩ := hrep.get hf
  have hlt : g < w'.heap.size := (Array.getElem?_eq_some_iff.1 hh).1
  have hcell := hown.cells (g := g) rfl (k * sz + j) u hu
  rw [addr_add] at hcell
  refine ⟨u, ?_, .inr ⟨hge, hlt⟩, hone u (List.mem_of_getElem? hu), Rep.mono hA.S hA.w _ _ hr⟩
  rw [show 0 + k * sz + j = 0 + (k * sz + j) by omega]; exact hcell
theorem append_t2 {P : Program} {w : World} {t t2 ty : TypeId} {e e2 : TypeId} {x y : Value} (hu : P.underlying t = some (.slice e)) (hu2 : P.underlying t2 = some (.slice e2)) :
  (Builtin.append_ #[t, t2] ty #[x, y]).run P w = (Builtin.append_ #[t, t] ty #[x, y]).run P w := by
 unfold Builtin.append_
 simp only [List.getElem?_toArray, List.getElem?_cons_zero, List.getElem?_cons_succ, Sem.run_bind, run_underlying hu, Result.andThen_ok]
 cases x <;> simp [run_underlying hu, run_underlying hu2]
theorem slT_und {E : Env} {t2 : TypeId} (h : slT (E.ty t2) = true) : ∃ e, E.P.underlying t2 = some (.slice e) := by
 cases hE : E.ty t2 with
 | slice e n b z => exact ⟨e, (slice_info hE).1⟩
 | _ => rw [hE] at h; cases h
theorem pappendN_sound {U : Nat → Prop} {ver : Nat} (hfr : ¬ U ver) {o : Oper} {a : Act} {f : Nat → PV} {rows : Rows} {x y : Operand} {t t2 : TypeId} (hop : o.op = .call { callee := .builtin .append, args := ⟨[x, y]⟩, argTypes := ⟨[t, t2]⟩ }) (ht2 : t2 = t ∨ slT (E.ty t2) = true)
  (hI : Inv w0 S0 c) (hr : c.rows = rows) (hcl : ∀ v, c.used v → U v) (hf : ∀ s, RepV c (f s) (a.tmps.getD s undef)) (hG : ∀ p ∈ G, RepV c p.1 p.2) (hn : a.tmps.size = n) (hdef : a.defers = [])
  (hd : ∀ t, o.dst = some t → t < n) {K : Nat → (Nat → PV) → Rows → Prop} (h : pappendN E ver o t (evf f x) (evf f y) K f rows) {K' : Act → World → Prop} {Q : Exit → Act → World → Prop} (hK : ∀ i f' rows' a' w', K i f' rows' → RelU w0 S0 n G (fun v => (i = 1 ∧ v = ver) ∨ U v) f' rows' a' w' → K' a' w') : o.wp E.P a c.w K' Q := by
 have hρ := evf_rep hf
 have run : ∀ {v' : Value} {w' : World}, (Builtin.append_ #[t, t] o.type #[a.eval x, a.eval y]).run E.P c.w = .ok v' w' → K' (a.put o.dst v') w' → o.wp E.P a c.w K' Q := by
  intro v' w' h1 h2
  unfold Oper.wp
  have h1' : (Builtin.append_ #[t, t2] o.type #[a.eval x, a.eval y]).run E.P c.w = .ok v' w' := by
   rcases ht2 with rfl | ht2
   ·exact h1
   ·obtain ⟨e2, hu2⟩ := slT_und ht2
    have hsl : ∃ e, E.P.underlying t = some (.slice e) := by
     unfold pappendN at h
     split at h
     ·rename_i e n b z hE; exact ⟨e, (slice_info hE).1⟩
     ·exact h.elim
    obtain ⟨e, hu⟩ := hsl
    rw [append_t2 hu hu2]; exact h1
  have : (execOp a.eval o).run E.P c.w = .ok (.value v') w' := by
   simp only [execOp, hop, resolve, invoke, builtin, Sem.run_bind, Sem.run_pure, Result.andThen_ok, List.map_toArray, List.map_cons, List.map_nil, h1']
  rw [this]
  exact h2
 unfold pappendN at h
 split at h
 ·rename_i e sz b z hE
  obtain ⟨l, hl, hlen, h⟩ := h
  obtain ⟨hu, hpos, hzl, i, zv, hi, hz, hs, hby, hzc, _⟩ := slice_info hE
  have hzs : zv.cells.size = sz := by rw [← hzl, ← hzc]; simp
  rw [← hr] at hl
  obtain ⟨A, cap, news, hvy, g1, g2, g3, g4, g5⟩ := ysrc_cells hI (hρ y) hl hlen
  have main : ∀ (vx : Value) (k : Nat) (xs : List Value), c.w.ownsRow w0.heap.size e sz vx k xs → a.eval x = vx → k + l.length ≤ room → (k + l.length) * b ≤ room →
    ∃ v' w', (Builtin.append_ #[t, t] o.type #[a.eval x, a.eval y]).run E.P c.w = .ok v' w' ∧ w'.ownsRow w0.heap.size e sz v' (k + l.length) (xs ++ news) ∧ c.w.grownBy w' vx.ownBlock ∧ (v'.ownBlock = vx.ownBlock ∨ v'.ownBlock = some c.w.heap.size) := by
   intro vx k xs hown hvx hb1 hb2
   rw [hvx, hvy]
   cases A with
   | some ad =>
    obtain ⟨v', w', q1, q2, q3, _, q5⟩ := run_append_own_at (P := E.P) c.w w0.heap.size t o.type e i zv sz b hu hi hz hs hby hzs hpos vx k xs hown ad l.length cap news g1 (g5 ad rfl) g3 (room_max hb1) (by simpa [room] using hb2) hI.below.size
    exact ⟨v', w', q1, q2, q3, q5⟩
   | none =>
    have hl0 := g4 rfl
    subst hl0
    have hn0 : news = [] := List.eq_nil_of_length_eq_zero (by simpa using g1)
    subst hn0
    refine ⟨vx, c.w, ?_, by simpa using hown, ⟨rfl, rfl, rfl, Nat.le_refl _, fun _ _ _ => rfl⟩, .inl rfl⟩
    rcases hown.2 with ⟨rfl, rfl⟩ | ⟨g, cap', cur, rfl, _, _, hnc, _⟩
    ·simp [Builtin.append_, run_underlying hu, Go.sizeOf, typeInfo, hi, Builtin.lenOf, Builtin.firstCells]
    ·simp [Builtin.append_, run_underlying hu, Go.sizeOf, typeInfo, hi, Builtin.lenOf, Builtin.firstCells, hnc, storeCells]
  split at h
  ·-- onto nil
   rename_i heq
   obtain ⟨hb1, hb2, h⟩ := h
   have hx := hρ x
   rw [heq] at hx
   simp only [RepV, RepC, Rep] at hx
   obtain ⟨v', w', q1, q2, q3, q4⟩ := main (.slice none 0 0) 0 [] (World.ownsRow_nil _ _ _ _) hx (by simpa using hb1) (by simpa using hb2)
   simp only [Nat.zero_add, List.nil_append] at q2
   obtain ⟨hI', hA⟩ := hI.set (ob := none) (id := o.dst.getD 0) (r' := ⟨ver, e, sz, l⟩) (xs := news) q3 (by simp) q2 g2 g3 hlen hpos (by
    intro g hg
    rcases q4 with q4 | q4
    ·rw [q4] at hg; simp [Value.ownBlock] at hg
    ·rw [q4] at hg; cases hg; exact .inr (Nat.le_refl _)) (fun hu => hfr (hcl _ hu))
   have hv : RepV { c with w := w', β := upd c.β (o.dst.getD 0) v', rows := upd c.rows (o.dst.getD 0) (some ⟨ver, e, sz, l⟩), used := fun v => v = ver ∨ c.used v } (.own (o.dst.getD 0) ver 0 l.length) v' := by
    have hform : ∃ A' cap', v' = .slice A' l.length cap' := by
     rcases q2.2 with ⟨rfl, h0⟩ | ⟨g, cap', cur, rfl, _⟩
     ·exact ⟨none, 0, by rw [h0]⟩
     ·exact ⟨_, cap', rfl⟩
    obtain ⟨A', cap', rfl⟩ := hform
    exact repV_new (r := ⟨ver, e, sz, l⟩) (by simp [upd]) rfl (Or.inl rfl) (by simp [upd])
   obtain ⟨f', rows', hk, hrel⟩ := pnew_rel (K := K 1) hr hcl hf hG hn hdef h hI' hA hv hd
   exact run q1 (hK 1 f' rows' _ _ hk (hrel.mono fun v hv => hv.imp (fun h => ⟨rfl, h⟩) fun h => h))
  ·-- onto a row of its own
   rename_i id ver0 off len heq
   obtain ⟨r, hrr, hver, rfl, rfl, he, hsz, hb1, hb2, h⟩ := h
   rw [← hr] at hrr
   have hx := hρ x
   rw [heq] at hx
   simp only [RepV, RepC] at hx
   obtain ⟨⟨xs, hown, hrep, hone⟩, hlen0, hnS, _⟩ := hI.row id r hrr
   have hxv : a.eval x = c.β id := by
    rcases (hx.2 r hrr hver).2 with ⟨_, A', m, cap', hβ, hv⟩ | ⟨h0, _⟩
    ·have hm : m = r.els.length := by
      rw [hβ] at hown
      rcases hown.2 with ⟨h', h0⟩ | ⟨g, cap'', cur, h', _⟩
      ·simp at h'; omega
      ·simp at h'; exact h'.2.1
     rw [hv, hβ, hm]
    ·omega
   rw [he, hsz] at hown
   obtain ⟨v', w', q1, q2, q3, q4⟩ := main (c.β id) r.els.length xs hown hxv hb1 hb2
   obtain ⟨hI', hA⟩ := hI.set (ob := (c.β id).ownBlock) (id := id) (r' := ⟨ver, e, sz, r.els ++ l⟩) (xs := xs ++ news) q3 (by
    intro g hg
    refine ⟨(hown.lt g hg).1, fun o => hnS g o hg, fun id' r' hr' hne hb => hne (hI.apart id' id r' r g hr' hrr hb hg)⟩) (by simpa using q2) (by
     show All2 (RepC c) (r.els ++ l).flatten _
     rw [List.flatten_append]; exact hrep.append g2) (by
     intro u hu
     rcases List.mem_append.1 hu with hu | hu
     ·exact hone u hu
     ·exact g3 u hu) (by
     intro e' he'
     rcases List.mem_append.1 he' with he' | he'
     ·rw [hlen0 e' he', hsz]
     ·exact hlen e' he') hpos (by
     intro g hg
     rcases q4 with q4 | q4
     ·exact .inl (by rw [← q4]; exact hg)
     ·rw [q4] at hg; cases hg; exact .inr (Nat.le_refl _)) (fun hu => hfr (hcl _ hu))
   have hv : RepV { c with w := w', β := upd c.β id v', rows := upd c.rows id (some ⟨ver, e, sz, r.els ++ l⟩), used := fun v => v = ver ∨ c.used v } (.own id ver 0 (r.els.length + l.length)) v' := by
    have hform : ∃ A' cap', v' = .slice A' (r.els.length + l.length) cap' := by
     rcases q2.2 with ⟨rfl, h0⟩ | ⟨g, cap', cur, rfl, _⟩
     ·exact ⟨none, 0, by rw [h0]⟩
     ·exact ⟨_, cap', rfl⟩
    obtain ⟨A', cap', rfl⟩ := hform
    exact repV_new (r := ⟨ver, e, sz, r.els ++ l⟩) (by simp [upd]) (by simp) (Or.inl rfl) (by simp [upd])
   obtain ⟨f', rows', hk, hrel⟩ := pnew_rel (K := K 1) hr hcl hf hG hn hdef h hI' hA hv hd
   exact run q1 (hK 1 f' rows' _ _ hk (hrel.mono fun v hv => hv.imp (fun h => ⟨rfl, h⟩) fun h => h))
  ·-- onto cells that stay, its capacity its length
   rename_i l0 heq
   obtain ⟨hlen0, hpl, hb1, hb2, h⟩ := h
   have hx := hρ x
   rw [heq] at hx
   simp only [RepV, RepC, Rep] at hx
   obtain ⟨A0, hA0, hm0, hrep0⟩ := hx
   have fin : ∀ {v' : Value} {w' : World}, (Builtin.append_ #[t, t] o.type #[a.eval x, a.eval y]).run E.P c.w = .ok v' w' →
     (∃ c', c'.w = w' ∧ c'.rows = c.rows ∧ c'.used = c.used ∧ Inv w0 S0 c' ∧ Adv c c' ∧ RepV c' (.sl (l0 ++ l)) v') → o.wp E.P a c.w K' Q := by
    rintro v' w' hrun ⟨c', rfl, h2, h3, h4, h5, h6⟩
    refine run hrun (hK 0 _ _ _ _ h ?_)
    exact relU_put hf hG hn hdef h5 h4 h6 hd rfl (by rw [h2, hr]) (by rw [h3]; exact fun v hv => .inr (hcl v hv))
   have newsRep : All2 (Rep c.S c.w) l.flatten news := by
    refine All2.of_get g2.length fun k p u hp hu => ?_
    obtain ⟨u', q1, q2⟩ := g2.get hp
    rw [hu] at q1; cases q1
    have hmem := List.mem_of_getElem? hp
    rw [List.mem_flatten] at hmem
    obtain ⟨e', he', hp'⟩ := hmem
    exact q2.rep (hpl e' he' p hp')
   by_cases hl0 : l = []
   ·subst hl0
    refine fin (v' := .slice A0 l0.length l0.length) (w' := c.w) ?_ ⟨c, rfl, rfl, rfl, hI, Adv.refl c, ?_⟩
    ·have hn0 : news = [] := List.eq_nil_of_length_eq_zero (by simpa using g1)
     subst hn0
     have hfc : (Builtin.firstCells i.size 0 (.slice A 0 cap)).run E.P c.w = .ok #[] c.w := by
      cases A with
      | none => simp [Builtin.firstCells]
      | some ad => simp [Builtin.firstCells, loadCells, loadCellsFrom]
     rw [hA0, hvy]
     cases A0 with
     | none => simp [Builtin.append_, run_underlying hu, Go.sizeOf, typeInfo, hi, Builtin.lenOf, hfc]
     | some ad0 => simp [Builtin.append_, run_underlying hu, Go.sizeOf, typeInfo, hi, Builtin.lenOf, hfc, storeCells]
    ·simp only [RepV, RepC, Rep, List.append_nil]
     exact ⟨A0, _, rfl, Nat.le_refl _, hm0, hrep0⟩
   ·have hlpos : 0 < l.length := List.length_pos_iff.2 hl0
    obtain ⟨ad, rfl⟩ : ∃ ad, A = some ad := by
     cases A with
     | none => exact absurd (g4 rfl) hl0
     | some ad => exact ⟨ad, rfl⟩
    obtain ⟨A2, cap2, olds, hvx, o1, o2, o3, o4, o5⟩ := ysrc_cells (y := .slx l0) (vy := a.eval x) (l := l0) hI (by simp only [RepV, RepC, Rep]; exact ⟨A0, hA0, hm0, hrep0⟩) rfl hlen0
    rw [hA0] at hvx
    simp only [Value.slice.injEq] at hvx
    obtain ⟨rfl, _, rfl⟩ := hvx
    have oldsRep : All2 (Rep c.S c.w) l0.flatten olds := by
     refine All2.of_get o2.length fun k p u hp hu => ?_
     have hmem := List.mem_of_getElem? hp
     rcases hrep0 with rfl | ⟨g, oo, rfl, hre⟩
     ·simp at hp
     ·have hsz0 : l0.flatten.length = l0.length * sz := by rw [o2.length, o1]
      have hk : k < l0.length * sz := by rw [← hsz0]; exact (List.getElem?_eq_some_iff.1 hp).1
      have hq : k / sz < l0.length := (Nat.div_lt_iff_lt_mul hpos).2 hk
      have hel := hlen0 l0[k / sz] (List.getElem_mem hq)
      have hj : k % sz < l0[k / sz].length := by rw [hel]; exact Nat.mod_lt _ hpos
      have hdm : k / sz * sz + k % sz = k := by rw [Nat.mul_comm]; exact Nat.div_add_mod k sz
      have hfg := flatten_get hlen0 (List.getElem?_eq_getElem hq) (List.getElem?_eq_getElem hj)
      rw [hdm, hp] at hfg
      cases hfg
      obtain ⟨u', r1, _, _, r4⟩ := repCells_get (repEls_get hre hlen0 (List.getElem?_eq_getElem hq)) (List.getElem?_eq_getElem hj)
      have := o5 _ rfl k u hu
      rw [addr_add] at this
      rw [show oo + k / sz * sz + k % sz = oo + k by omega, this] at r1
      cases r1; exact r4
    have grow : ∃ v' w', (Builtin.append_ #[t, t] o.type #[a.eval x, a.eval y]).run E.P c.w = .ok v' w' ∧ w'.ownsRow c.w.heap.size e sz v' (l0.length + l.length) (olds ++ news) ∧ c.w.grownBy w' none := by
     rw [hA0, hvy]
     cases A0 with
     | some ad0 => exact run_append_arg_grows (P := E.P) c.w t o.type e i zv sz b hu hi hz hs hby hzs hpos ad0 l0.length l0.length olds o1 (o5 ad0 rfl) ad l.length cap news g1 (g5 ad rfl) (by omega) (room_max hb1) (by simpa [room] using hb2)
     | none =>
      have hl00 := o4 rfl
      subst hl00
      have ho0 : olds = [] := List.eq_nil_of_length_eq_zero (by simpa using o1)
      subst ho0
      obtain ⟨v', w', q1, q2, q3, _, q5⟩ := run_append_own_at (P := E.P) c.w c.w.heap.size t o.type e i zv sz b hu hi hz hs hby hzs hpos (.slice none 0 0) 0 [] (World.ownsRow_nil _ _ _ _) ad l.length cap news g1 (g5 ad rfl) g3 (by simpa using room_max hb1) (by simpa [room] using hb2) (Nat.le_refl _)
      exact ⟨v', w', q1, by simpa using q2, q3⟩
    obtain ⟨v', w', q1, q2, q3⟩ := grow
    refine fin q1 (grown_pers hI q3 (els := l0 ++ l) (by simpa using q2) (by rw [List.flatten_append]; exact oldsRep.append newsRep) (fun u hu => ?_) (fun e' he' => ?_))
    ·rcases List.mem_append.1 hu with hu | hu
     ·exact o3 u hu
     ·exact g3 u hu
    ·rcases List.mem_append.1 he' with he' | he'
     ·exact hlen0 e' he'
     ·exact hlen e' he'
  ·exact h.elim
 ·exact h.elim
end
end Pm
namespace Pm
open Go Go.RowKit
section
variable {E : Env} {w0 : World} {S0 : Stab} {n : Nat} {G : Gs}
theorem run_copy_any {P : Program} (w : World) (dT sT ty elem : TypeId) (g o dLen dCap : Nat) (A : Option Addr) (sLen sCap : Nat) (cur : Array Value) (t : TypeId) (cs : List Value)
  (hu : P.underlying dT = some (.slice elem)) (hs : (P.info? elem).map (·.size) = some 1)
  (hg : w.heap[g]? = some (.cells cur t (0, 0))) (hn : cs.length = Nat.min sLen dLen)
  (hsrc : ∀ a, A = some a → ∀ j v, cs[j]? = some v → w.cell? (a.add j) = some v) (hA : A = none → cs = []) (hfit : o + cs.length ≤ cur.size) (h1 : ∀ v ∈ cs, v.oneCell' = true) :
  (Builtin.copy_ #[dT, sT] ty #[.slice (some ⟨g, o, none⟩) dLen dCap, .slice A sLen sCap]).run P w =
   .ok (goInt cs.length) (w.setRow g (cur.toList.take o ++ cs ++ cur.toList.drop (o + cs.length)).toArray) := by
 cases A with
 | some a => exact run_copy_row P w dT sT ty elem g o dLen dCap a sLen sCap cur t cs hu hs hg hn (hsrc a rfl) hfit h1
 | none =>
  have := hA rfl
  subst this
  cases hq : P.info? elem with
  | none => simp [hq] at hs
  | some i =>
   have hn' : Nat.min sLen dLen = 0 := by simpa using hn.symm
   have hself := setRow_self w g cur t (0, 0) hg
   simp [Builtin.copy_, run_underlying hu, Builtin.lenOf, Builtin.firstCells, Go.sizeOf, typeInfo, hq, hn', storeCells, List.take_append_drop, hself]
theorem pfreeN_sound {U : Nat → Prop} {ver : Nat} (hfr : ¬ U ver) {o : Oper} {a : Act} {w : World} {f : Nat → PV} {rows : Rows} {K : Nat → (Nat → PV) → Rows → Prop} (h : pfreeN E ver o K f rows) (hR : RelU w0 S0 n G U f rows a w) (hd : ∀ t, o.dst = some t → t < n)
  {K' : Act → World → Prop} {Q : Exit → Act → World → Prop} (hK : ∀ i f' rows' a' w', K i f' rows' → RelU w0 S0 n G (fun v => (i = 1 ∧ v = ver) ∨ U v) f' rows' a' w' → K' a' w') : o.wp E.P a w K' Q := by
 obtain ⟨⟨c, rfl, hr, hcl, hI, hf, hG⟩, hn, hdef⟩ := hR
 have hρ := evf_rep hf
 have hfu : ¬ c.used ver := fun hu => hfr (hcl _ hu)
 have value : ∀ {v' : Value} {w' : World}, (execOp a.eval o).run E.P c.w = .ok (.value v') w' → K' (a.put o.dst v') w' → o.wp E.P a c.w K' Q := by
  intro v' w' h1 h2
  unfold Oper.wp
  rw [h1]
  exact h2
 have newVar : ∀ (t : TypeId) (l : List PV) (vx : Value), (E.ty t).known = true → All2 (RepC c) l vx.cells.toList → (∀ u ∈ vx.cells.toList, u.oneCell' = true) → l.length = (E.ty t).size →
   pnewN K ver f rows o.dst (.ptr (o.dst.getD 0) ver 0 0) (o.dst.getD 0) t (E.ty t).size [l] → (execOp a.eval o).run E.P c.w = .ok (.value (.pointer (some ⟨c.w.heap.size, 0, none⟩))) (c.w.alloc (.cells vx.cells t)) → o.wp E.P a c.w K' Q := by
  intro t l vx hk hrep hone hlen hp hrun
  have hz := (E.ok t).zero hk
  have hsz : vx.cells.size = (E.ty t).size := by rw [← hlen, hrep.length]; simp
  obtain ⟨hI', hA⟩ := new_block hI hfu (o.dst.getD 0) t (E.ty t).size 1 1 [l] vx.cells rfl (Nat.le_refl _) (by simp [maxLen]) (by omega) (by
   simp only [List.flatten_cons, List.flatten_nil, List.append_nil]
   rw [List.take_of_length_le (by simp [hsz])]; exact hrep) hone (by simpa using hlen) hz.pos
  obtain ⟨f', rows', hk', hrel⟩ := pnew_rel (K := K 1) hr hcl hf hG hn hdef hp hI' hA (repV_ptr (Or.inl rfl) (g := c.w.heap.size) (n := 1) (cap := 1) (by simp [upd])) hd
  exact value hrun (hK 1 f' rows' _ _ hk' (hrel.mono fun v hv => hv.imp (fun h => ⟨rfl, h⟩) fun h => h))
 obtain ⟨dst, op, type, pos, after, guard⟩ := o
 simp only at hd value newVar
 unfold pfreeN at h
 simp only at h
 split at h
 ·-- alloc
  rename_i t
  obtain ⟨hk, h⟩ := h
  have hz := (E.ok t).zero hk
  obtain ⟨i, zv, h1, h2, h3, h4, h5, h6⟩ := zero_rep (c := c) hz
  exact newVar t (E.ty t).zero zv hk h4 h6 rfl h (by simp [execOp, Instr.alloc, zeroValue, typeInfo, h1, h2, Go.newVar, newRow])
 ·-- box
  rename_i t x
  obtain ⟨hk, l, hl, hone, hlen, h⟩ := h
  rw [← hr] at hone
  obtain ⟨g1, g2⟩ := cellsS_rep (hρ x) hl hone
  exact newVar t l (a.eval x) hk g1 g2 hlen h (by simp [execOp, Instr.box, Go.newVar, newRow])
 ·-- makeSlice
  rename_i t l cc
  split at h
  ·rename_i e sz b z k1 x k2 y hE hl hc
   obtain ⟨h0, hxy, hb1, hb2, h⟩ := h
   obtain ⟨hu, hpos, hzl, i, zv, hi, hz, hs, hby, hzc, hzo⟩ := slice_info hE
   have g1 := hρ l
   have g2 := hρ cc
   rw [hl, rep_int] at g1
   rw [hc, rep_int] at g2
   have hzs : zv.cells.size = sz := by rw [← hzl, ← hzc]; simp
   have hbytes : (i.bytes : Int) * y ≤ 281474976710656 := by
    rw [hby]
    have h3 : ((y.toNat * b : Nat) : Int) ≤ room := by exact_mod_cast hb2
    have h4 : ((y.toNat : Nat) : Int) = y := Int.toNat_of_nonneg (by omega)
    rw [Int.natCast_mul, h4] at h3
    simp only [room] at h3
    rw [Int.mul_comm]; omega
   have hrun := run_make (P := E.P) c.w t e i zv hu hi hz k1 k2 x y h0 hxy hbytes (by simp only [room] at hb1; omega)
   have hrun' : (execOp a.eval { dst := dst, op := .makeSlice t l cc, type := type, pos := pos, after := after, guard := guard }).run E.P c.w = .ok (.value (.slice (some ⟨c.w.heap.size, 0, none⟩) x.toNat y.toNat)) (c.w.alloc (.cells (madeCells zv.cells (y.toNat * i.size)) e)) := by
    simp [execOp, g1, g2, hrun]
   have hzrep : All2 (RepC c) z zv.cells.toList := by
    rw [← hzc]
    refine All2.of_get (by simp) fun k p u hp hu => ?_
    simp at hp
    obtain ⟨q, hq, rfl⟩ := hp
    have : zv.cells.toList[k]? = some q := by simpa using hq
    rw [this] at hu; cases hu
    exact constC_rep _
   have hle : x.toNat * sz ≤ y.toNat * sz := Nat.mul_le_mul_right _ (by omega)
   have hL : ((madeCells zv.cells (y.toNat * i.size)).toList.take (x.toNat * sz)).length = x.toNat * sz := by
    rw [List.length_take, Array.length_toList, size_madeCells, hs]; exact Nat.min_eq_left hle
   obtain ⟨hI', hA⟩ := new_block hI hfu (dst.getD 0) e sz x.toNat y.toNat (List.replicate x.toNat z) (madeCells zv.cells (y.toNat * i.size)) (by simp) (by omega) (room_max hb1) (by rw [size_madeCells, hs]) (by
    refine All2.of_get (by rw [hL]; simp [hzl]) fun k p u hp hu => ?_
    have hk := (List.getElem?_eq_some_iff.1 hu).1
    rw [hL] at hk
    rw [List.getElem?_take, if_pos (by omega), madeCells_get (by rw [hs]; omega) (by omega)] at hu
    have hp' := replicate_flatten_get hp
    rw [hzl, ← hzs] at hp'
    obtain ⟨u', q1, q2⟩ := hzrep.get hp'
    rw [hu] at q1; cases q1; exact q2) (by
    intro u hu
    obtain ⟨k, hk⟩ := List.getElem?_of_mem hu
    have hk' := (List.getElem?_eq_some_iff.1 hk).1
    simp [size_madeCells] at hk'
    rw [madeCells_get hk' (by omega)] at hk
    have := List.mem_of_getElem? hk
    exact (Array.all_eq_true_iff_forall_mem.1 hzo) u (by simpa using this)) (by
    intro e' he'
    rw [List.mem_replicate] at he'
    rw [he'.2, hzl]) hpos
   obtain ⟨f', rows', hk', hrel⟩ := pnew_rel (K := K 1) hr hcl hf hG hn hdef h hI' hA (repV_new (r := ⟨ver, e, sz, List.replicate x.toNat z⟩) (A := some ⟨c.w.heap.size, 0, none⟩) (cap := y.toNat) (by simp [upd]) (by simp) (Or.inl rfl) (by simp [upd])) hd
   exact value hrun' (hK 1 f' rows' _ _ hk' (hrel.mono fun v hv => hv.imp (fun h => ⟨rfl, h⟩) fun h => h))
  ·exact h.elim
 ·-- append
  rename_i x y t t2
  obtain ⟨ht2, h⟩ := h
  exact pappendN_sound hfr rfl ht2 hI hr hcl hf hG hn hdef hd h hK
 ·exact h.elim
theorem pfree_sound {o : Oper} {a : Act} {w : World} {σ : PS} {K : PS → Prop} (h : pfree E o K σ) (hR : Rel w0 S0 n G σ a w) (hd : ∀ t, o.dst = some t → t < n)
  {K' : Act → World → Prop} {Q : Exit → Act → World → Prop} (hK : ∀ σ' a' w', K σ' → Rel w0 S0 n G σ' a' w' → K' a' w') : o.wp E.P a w K' Q := by
 obtain ⟨⟨c, rfl, hr, hcl, hI, hf, hG⟩, hn, hdef⟩ := hR
 have hρ := evf_rep hf
 have value : ∀ {v' : Value} {w' : World}, (execOp a.eval o).run E.P c.w = .ok (.value v') w' → K' (a.put o.dst v') w' → o.wp E.P a c.w K' Q := by
  intro v' w' h1 h2
  unfold Oper.wp
  rw [h1]
  exact h2
 have dflt : (∃ v u, ys E o.op (evf σ.f) σ.rows v u ∧ K ⟨put σ.f o.dst v, applyU σ.rows u, σ.clock⟩) → o.wp E.P a c.w K' Q := by
  rintro ⟨v, u, hy, hk⟩
  rw [← hr] at hy
  refine ys_sound hI hf hy fun v' c' h1 h2 h3 h4 h5 => hK _ _ _ hk ?_
  exact rel_put hf hG hn hdef h3 h4 h5 hd rfl (by simp [h1, hr]) (by rw [h2]; exact hcl)
 have nw : pfreeN E σ.clock o (fun i f r => K ⟨f, r, σ.clock + i⟩) σ.f σ.rows → o.wp E.P a c.w K' Q := fun hp =>
  pfreeN_sound (U := fun v => v < σ.clock) (Nat.lt_irrefl _) hp ⟨⟨c, rfl, hr, hcl, hI, hf, hG⟩, hn, hdef⟩ hd fun i f' rows' a' w' hk hrel => hK _ _ _ hk (hrel.mono fun v hv => by
   show v < σ.clock + i
   rcases hv with ⟨rfl, rfl⟩ | hv
   ·omega
   ·have : v < σ.clock := hv
    omega)
 obtain ⟨dst, op, type, pos, after, guard⟩ := o
 simp only at hd value dflt nw
 unfold pfree at h
 simp only at h
 split at h
 ·-- alloc
  rename_i t
  exact nw (show pfreeN E σ.clock _ _ σ.f σ.rows from h)
 ·-- box
  rename_i t x
  exact nw (show pfreeN E σ.clock _ _ σ.f σ.rows from h)
 ·-- makeSlice
  rename_i t l cc
  refine nw (show pfreeN E σ.clock _ _ σ.f σ.rows from ?_)
  unfold pfreeN
  simp only
  split at h
  ·exact h
  ·exact h.elim
 ·-- append
  rename_i x y t t2
  obtain ⟨ht2, h⟩ := h
  refine nw (show pfreeN E σ.clock _ _ σ.f σ.rows from ⟨ht2, ?_⟩)
  unfold pappend at h
  unfold pappendN
  split at h
  ·obtain ⟨l, g1, g2, g3⟩ := h
   refine ⟨l, g1, g2, ?_⟩
   split at g3 <;> exact g3
  ·exact h
 ·-- copy
  rename_i x y t t2
  split at h
  ·rename_i e sz b z id ver off len hE hx
   obtain ⟨rfl, r, hrr, hver, hsz, hle, hlpos, l, hl, hl1, h⟩ := h
   rw [← hr] at hrr hl
   have gx := hρ x
   rw [hx] at gx
   simp only [RepV, RepC] at gx
   obtain ⟨_, gx⟩ := gx.2 r hrr hver
   obtain ⟨hu, hpos, hzl, i, zv, hi, hz, hs, hby, hzc, hzo⟩ := slice_info hE
   obtain ⟨A, cap, news, hvy, g1, g2, g3, g4, g5⟩ := ysrc_cells hI (hρ y) hl hl1
   obtain ⟨⟨xs, hown, hrep, hone⟩, hels, hnS, _⟩ := hI.row id r hrr
   obtain ⟨g, cap', hβ⟩ := own_form hI hrr (by omega)
   obtain ⟨dcap, hvx⟩ : ∃ dcap, a.eval x = .slice (some ⟨g, off, none⟩) len dcap := by
    rcases gx with ⟨h0, A', m, cap2, hβ2, hv⟩ | ⟨_, g2, m, cap2, A', hβ2, _, hv, ha⟩
    ·rw [hβ] at hβ2
     simp only [Value.slice.injEq] at hβ2
     obtain ⟨rfl, _, _⟩ := hβ2
     exact ⟨_, by rw [hv, h0]⟩
    ·rw [hβ] at hβ2
     simp only [Value.slice.injEq, Option.some.injEq, Addr.mk.injEq, and_true] at hβ2
     obtain ⟨rfl, _, _⟩ := hβ2
     rcases ha with ha | ha
     ·omega
     ·exact ⟨_, by rw [hv, ha, hsz, Nat.mul_one]⟩
   have hown0 := hown
   rw [hβ] at hown
   rcases hown.2 with ⟨h', _⟩ | ⟨g', cap'', cur, h', hge, hg, hnc, hcm, hcs, htake⟩
   ·simp at h'
   ·simp only [Value.slice.injEq, Option.some.injEq, Addr.mk.injEq, and_true] at h'
    obtain ⟨rfl, _, rfl⟩ := h'
    rw [hsz, Nat.mul_one] at hcs htake
    have hnl : news.length = l.length := by simpa using g1
    have hmin : (news.take len).length = Nat.min l.length len := by
     rw [List.length_take, hnl]; exact Nat.min_comm _ _
    have hml : Nat.min l.length len ≤ len := Nat.min_le_right _ _
    have hrun := run_copy_any (P := E.P) c.w t t2 type e g off len dcap A l.length cap cur r.e (news.take len) hu (by simp [hi, hs]) hg hmin
     (fun ad had j v hj => g5 ad had j v (by rw [List.getElem?_take] at hj; split at hj; exact hj; cases hj)) (fun hA => by
      have := g4 hA
      subst this
      have : news = [] := List.eq_nil_of_length_eq_zero (by simpa using hnl)
      simp [this]) (by rw [hmin]; omega) (fun v hv => g3 v (List.mem_of_mem_take hv))
    have hrun' : (execOp a.eval { dst := dst, op := .call { callee := .builtin .copy, args := ⟨[x, y]⟩, argTypes := ⟨[t, t2]⟩ }, type := type, pos := pos, after := after, guard := guard }).run E.P c.w = .ok (.value (goInt (news.take len).length)) (c.w.setRow g (cur.toList.take off ++ news.take len ++ cur.toList.drop (off + (news.take len).length)).toArray) := by
     simp only [execOp, resolve, invoke, builtin, Sem.run_bind, Sem.run_pure, Result.andThen_ok, List.map_toArray, List.map_cons, List.map_nil, hvx, hvy, hrun]
    have one : ∀ {l : List (List PV)}, (∀ e ∈ l, e.length = 1) → ∀ k, (l.take k).flatten = l.flatten.take k ∧ (l.drop k).flatten = l.flatten.drop k := by
     intro l
     induction l with
     | nil => intro _ k; simp
     | cons e l ih =>
      intro hh k
      have he := hh e (by simp)
      match e, he with
      | [p], _ =>
       cases k with
       | zero => simp
       | succ k =>
        have := ih (fun e he => hh e (by simp [he])) k
        simp [this.1, this.2]
    have hels1 : ∀ e ∈ r.els, e.length = 1 := fun e he => by rw [hels e he, hsz]
    have hflen : r.els.flatten.length = r.els.length := by rw [hrep.length, hown.1, hsz, Nat.mul_one]
    have hlf : l.flatten.length = l.length := by rw [g2.length, hnl]
    have hmin2 : min l.length len = Nat.min l.length len := rfl
    have hown' : (c.w.setRow g (cur.toList.take off ++ news.take len ++ cur.toList.drop (off + (news.take len).length)).toArray).ownsRow w0.heap.size r.e r.size (c.β id) (r.els.take off ++ l.take len ++ r.els.drop (off + min l.length len)).length
      (xs.take off ++ news.take len ++ xs.drop (off + (news.take len).length)) := by
     have hll : (r.els.take off ++ l.take len ++ r.els.drop (off + min l.length len)).length = r.els.length := by simp; omega
     have hxl : xs.length = r.els.length := by rw [hown.1, hsz, Nat.mul_one]
     rw [hβ, hll]
     refine ⟨?_, .inr ⟨g, cap', _, rfl, hge, setRow_heap _ g cur _ r.e _ hg, hnc, hcm, ?_, ?_⟩⟩
     ·rw [hsz, Nat.mul_one]; simp [hmin]; omega
     ·rw [hsz, Nat.mul_one]; simp [hmin]; omega
     ·rw [hsz, Nat.mul_one, ← htake]
      have hcur : cur.toList.length = cap' := by simp [hcs]
      simp only
      rw [List.take_append, List.take_append]
      have e1 : List.take r.els.length (cur.toList.take off) = cur.toList.take off := by rw [List.take_take, Nat.min_eq_right (by omega)]
      have e2 : List.take off (cur.toList.take r.els.length) = cur.toList.take off := by rw [List.take_take, Nat.min_eq_left (by omega)]
      rw [e1, e2]
      have e3 : (cur.toList.take off).length = off := by rw [List.length_take]; omega
      have e4 : List.take (r.els.length - off) (news.take len) = news.take len := List.take_of_length_le (by rw [hmin]; omega)
      rw [e3, e4]
      congr 1
      rw [List.length_append, e3, List.drop_take]
    have hg2 : c.w.grownBy (c.w.setRow g (cur.toList.take off ++ news.take len ++ cur.toList.drop (off + (news.take len).length)).toArray) (c.β id).ownBlock := by
     rw [hβ]
     exact ⟨rfl, rfl, rfl, by simp, fun k _ hk => setRow_other _ g k _ (fun e => hk (by simp [Value.ownBlock, e]))⟩
    obtain ⟨hI', hA⟩ := hI.upd (r' := { r with els := r.els.take off ++ l.take len ++ r.els.drop (off + min l.length len) }) hrr hg2 hown' (by
     show All2 (RepC c) (r.els.take off ++ l.take len ++ r.els.drop (off + min l.length len)).flatten _
     rw [List.flatten_append, List.flatten_append, (one hels1 off).1, (one hl1 len).1, (one hels1 _).2, hmin2, ← hmin]
     exact ((hrep.take _).append (g2.take _)).append (hrep.drop _)) (by
     intro y' hy'
     simp only [List.mem_append] at hy'
     rcases hy' with (hy' | hy') | hy'
     ·exact hone y' (List.mem_of_mem_take hy')
     ·exact g3 y' (List.mem_of_mem_take hy')
     ·exact hone y' (List.mem_of_mem_drop hy')) (by
     intro e' he'
     simp only [List.mem_append] at he'
     rw [hsz]
     rcases he' with (he' | he') | he'
     ·exact hels1 e' (List.mem_of_mem_take he')
     ·exact hl1 e' (List.mem_of_mem_take he')
     ·exact hels1 e' (List.mem_of_mem_drop he')) rfl rfl (by simp; omega)
    refine value hrun' (hK _ _ _ h ?_)
    exact rel_put hf hG hn hdef hA hI' (rep_int.2 (by
     have h9 := hmin
     rw [← hmin2] at h9
     simp only [goInt, h9]
     congr 1
     omega)) hd rfl (by simp [hr]) hcl
  ·exact h.elim
 ·-- a call
  rename_i fo args ts
  have hargs : All2 (RepV c) (args.toList.map fun x => evf σ.f x) (args.map a.eval).toList := by
   refine All2.of_get (by simp) fun k p u hp hu => ?_
   simp at hp hu
   obtain ⟨x, hx, rfl⟩ := hp
   obtain ⟨y, hy, rfl⟩ := hu
   rw [hx] at hy; cases hy
   exact hρ x
  split at h
  ·have hfo := hρ fo
   unfold ycallM at h
   split at h
   ·rename_i g heq
    rw [heq] at hfo
    obtain ⟨R, ⟨⟨fn, b, h1, h2, h3⟩, hret⟩, hk⟩ := h
    simp only [RepV, RepC, Rep] at hfo
    obtain ⟨cs, hfv, hcs⟩ := hfo
    simp only [RepList] at hcs
    subst hcs
    have hcall := hret w0 S0 c _ (fun p => p ∈ G ∨ ∃ s, p = (σ.f s, a.tmps.getD s undef)) hI hr hcl hargs (by
     rintro p (hp | ⟨s, rfl⟩)
     ·exact hG p hp
     ·exact hf s)
    simp only [Array.toArray_toList] at hcall
    unfold Oper.wp
    have hrun : (execOp a.eval { dst := dst, op := .call { callee := .value fo, args := args, argTypes := ts }, type := type, pos := pos, after := after, guard := guard }).run E.P c.w = .ok (.enter g (args.map a.eval)) c.w := by
     simp only [execOp, resolve, hfv, Deferred.ofValue, Sem.run_bind, Sem.run_pure, Result.andThen_ok, invoke]
     simpa using callFunc_enter h1 h2 h3 (args.map a.eval) c.w
    rw [hrun]
    refine hcall.mono ?_
    rintro e w' ⟨v', c', r, clk', rfl, rfl, hI', hG', hR', hcl', hv'⟩
    refine hK _ _ _ (hk _ _ _ hR') ?_
    exact rel_putG (fun s => hG' (σ.f s, a.tmps.getD s undef) (.inr ⟨s, rfl⟩)) (fun p hp => hG' p (.inl hp)) hn hdef hI' hv' hd rfl rfl hcl'
   ·exact h.elim
  obtain ⟨v, hc, hp, hk⟩ := h
  rw [← hr] at hc hp hk
  have hc' : ycall E (evf σ.f fo) ((args.toList.map fun x => evf σ.f x).map (pz c.rows)) v := by rw [List.map_map]; exact hc
  obtain ⟨g, cs, h1, h2, h3⟩ := ycall_sound hI (ids := args.toList.flatMap fun x => idsV (evf σ.f x)) hp (hρ fo) hargs (by
   intro p hp id hid
   simp at hp
   obtain ⟨x, hx, rfl⟩ := hp
   simp only [List.mem_flatMap]; exact ⟨x, by simpa using hx, hid⟩) hc' (K := fun v' w' => K' (a.put dst v') w') (fun v' c' q1 q2 q3 q4 q5 => hK _ _ _ hk (rel_put hf hG hn hdef q3 q4 q5 hd rfl (by simp [q1]) (by rw [q2]; exact hcl)))
  unfold Oper.wp
  have hrun : (execOp a.eval { dst := dst, op := .call { callee := .value fo, args := args, argTypes := ts }, type := type, pos := pos, after := after, guard := guard }).run E.P c.w = .ok (.enter g (args.map a.eval ++ cs)) c.w := by
   simp only [execOp, resolve, h1, Deferred.ofValue, Sem.run_bind, Sem.run_pure, Result.andThen_ok, invoke]
   simp only [Array.toArray_toList] at h2
   simpa only [Array.empty_append] using h2
  rw [hrun]
  simp only [Array.toArray_toList] at h3
  exact h3.mono fun e w' ⟨v', he, hk⟩ => by subst he; exact hk
 ·-- a closure
  rename_i g caps
  obtain ⟨hpers, hp, hk⟩ := h
  rw [← hr] at hpers hp hk
  have hIf := hI.freeze (caps.toList.flatMap fun x => idsV (evf σ.f x))
  refine value (v' := .func (.func g) #[] (caps.map a.eval)) (w' := c.w) (by simp [execOp, Instr.makeFunc]) (hK _ _ _ hk ?_)
  refine rel_put (c' := frC c (caps.toList.flatMap fun x => idsV (evf σ.f x))) hf hG hn hdef (frC_adv c _) hIf ?_ hd rfl (by simp [frC]) hcl
  simp only [RepV, RepC, Rep]
  refine ⟨(caps.map a.eval).toList, by rw [Array.toArray_toList], RepList_iff.2 (All2.of_get (by simp) fun k p u hp' hu => ?_)⟩
  simp at hp' hu
  obtain ⟨x, hx, rfl⟩ := hp'
  obtain ⟨y, hy, rfl⟩ := hu
  rw [hx] at hy; cases hy
  have hmem : x ∈ caps.toList := by simpa using Array.mem_of_getElem? hx
  exact pz_rep hI hp (hρ x) (fun id hid => by simp only [List.mem_flatMap]; exact ⟨x, hmem, hid⟩) (List.all_eq_true.1 hpers _ (by simp; exact ⟨x, by simpa using hmem, rfl⟩))
 ·exact dflt h
end
end Pm
namespace Pm
open Go Go.RowKit
def fpOp (op : Op) (ρ : Operand → PV) : List Nat :=
 match op with
 | .load _ p => ids1 (ρ p)
 | .fieldAddr _ x _ => ids1 (ρ x)
 | .indexAddr _ x _ => ids1 (ρ x)
 | .slice _ x _ _ _ => ids1 (ρ x)
 | .store _ p x => ids1 (ρ p) ++ ((cellsS (ρ x)).getD []).flatMap ids1
 | .call { callee := .builtin .len, args := ⟨[x]⟩, argTypes := ⟨[_]⟩ } => ids1 (ρ x)
 | .call { callee := .builtin .append, args := ⟨[x, y]⟩, argTypes := ⟨[_, _]⟩ } => ids1 (ρ x) ++ ids1 (ρ y)
 | .nilCheck x => ids1 (ρ x)
 | _ => []
def RowsLe (ids : List Nat) (rows rows' : Rows) : Prop := ∀ id ∈ ids, ∀ r, rows id = some r → rows' id = some r
section
variable {E : Env}
theorem fz_none {rows rows' : Rows} {p : PV} (h : ids1 p = []) : fz rows p = fz rows' p := by cases p <;> simp_all [fz, ids1]
theorem pz_none {rows rows' : Rows} {p : PV} (h : idsV p = []) : pz rows p = pz rows' p := by
 cases p with
 | ag l =>
  simp only [idsV, List.flatMap_eq_nil_iff] at h
  simp only [pz]
  congr 1
  exact List.map_congr_left fun q hq => fz_none (h q hq)
 | _ => simp only [pz, idsV] at h ⊢; exact fz_none h
theorem one1_le {rows rows' : Rows} {p : PV} (h : RowsLe (ids1 p) rows rows') (ho : one1 rows p) : one1 rows' p := by
 cases p with
 | own id ver off len => obtain ⟨r, hr, hv⟩ := ho; exact ⟨r, h id (by simp [ids1]) r hr, hv⟩
 | ptr id ver i j => obtain ⟨r, hr, hv⟩ := ho; exact ⟨r, h id (by simp [ids1]) r hr, hv⟩
 | _ => exact ho
theorem one1_live {rows : Rows} {p : PV} (ho : one1 rows p) : ∀ id ∈ ids1 p, ∃ r, rows id = some r := by
 intro id hid
 cases p with
 | own id' ver off len => simp [ids1] at hid; subst hid; obtain ⟨r, hr, _⟩ := ho; exact ⟨r, hr⟩
 | ptr id' ver i j => simp [ids1] at hid; subst hid; obtain ⟨r, hr, _⟩ := ho; exact ⟨r, hr⟩
 | _ => simp [ids1] at hid
theorem yload_le {t : TypeId} {rows rows' : Rows} {p v : PV} (h : RowsLe (ids1 p) rows rows') (hy : yload E t rows p v) : yload E t rows' p v ∧ ∀ id ∈ ids1 p, ∃ r, rows id = some r := by
 obtain ⟨hk, hy⟩ := hy
 cases p with
 | ptr id ver i j =>
  obtain ⟨r, hr, hh⟩ := hy
  exact ⟨⟨hk, r, h id (by simp [ids1]) r hr, hh⟩, by simp [ids1]; exact ⟨r, hr⟩⟩
 | rd l => exact ⟨⟨hk, hy⟩, by simp [ids1]⟩
 | _ => exact hy.elim
theorem yfieldAddr_le {t : TypeId} {i : Nat} {rows rows' : Rows} {x v : PV} (h : RowsLe (ids1 x) rows rows') (hy : yfieldAddr E t rows i x v) : yfieldAddr E t rows' i x v ∧ ∀ id ∈ ids1 x, ∃ r, rows id = some r := by
 unfold yfieldAddr at *
 split at hy
 ·rename_i fs z hE
  obtain ⟨o, n, b, hf, hy⟩ := hy
  cases x with
  | ptr id ver a j =>
   obtain ⟨⟨r, hr, hv⟩, hh⟩ := hy
   exact ⟨⟨o, n, b, hf, ⟨r, h id (by simp [ids1]) r hr, hv⟩, hh⟩, by simp [ids1]; exact ⟨r, hr⟩⟩
  | rd l => exact ⟨⟨o, n, b, hf, hy⟩, by simp [ids1]⟩
  | _ => exact hy.elim
 ·exact hy.elim
theorem yindexAddr_le {t : TypeId} {rows rows' : Rows} {x ix v : PV} (h : RowsLe (ids1 x) rows rows') (hy : yindexAddr E t rows x ix v) : yindexAddr E t rows' x ix v ∧ ∀ id ∈ ids1 x, ∃ r, rows id = some r := by
 unfold yindexAddr at *
 split at hy
 ·split at hy
  ·obtain ⟨h0, hy⟩ := hy
   cases x with
   | own id ver off len =>
    obtain ⟨r, hr, hh⟩ := hy
    exact ⟨⟨h0, r, h id (by simp [ids1]) r hr, hh⟩, by simp [ids1]; exact ⟨r, hr⟩⟩
   | sl l => exact ⟨⟨h0, hy⟩, by simp [ids1]⟩
   | slx l => exact ⟨⟨h0, hy⟩, by simp [ids1]⟩
   | _ => exact hy.elim
  ·exact hy.elim
 ·split at hy
  ·obtain ⟨h0, hy⟩ := hy
   cases x with
   | ptr id ver a j =>
    obtain ⟨⟨r, hr, hv⟩, hh⟩ := hy
    exact ⟨⟨h0, ⟨r, h id (by simp [ids1]) r hr, hv⟩, hh⟩, by simp [ids1]; exact ⟨r, hr⟩⟩
   | rd l => exact ⟨⟨h0, hy⟩, by simp [ids1]⟩
   | _ => exact hy.elim
  ·exact hy.elim
 ·exact hy.elim
theorem yslice_le {t : TypeId} {rows rows' : Rows} {x v : PV} {lo hi mx : Option PV} (h : RowsLe (ids1 x) rows rows') (hy : yslice E t rows x lo hi mx v) : yslice E t rows' x lo hi mx v ∧ ∀ id ∈ ids1 x, ∃ r, rows id = some r := by
 unfold yslice at *
 split at hy
 ·cases x with
  | own id ver off len =>
   obtain ⟨r, hr, hh⟩ := hy
   exact ⟨⟨r, h id (by simp [ids1]) r hr, hh⟩, by simp [ids1]; exact ⟨r, hr⟩⟩
  | nil => exact ⟨hy, by simp [ids1]⟩
  | sl l => exact ⟨hy, by simp [ids1]⟩
  | slx l => exact ⟨hy, by simp [ids1]⟩
  | _ => exact hy.elim
 ·exact hy.elim
theorem ylen_le {rows rows' : Rows} {x : PV} {n : Nat} (h : RowsLe (ids1 x) rows rows') (hy : ylen rows x n) : ylen rows' x n ∧ ∀ id ∈ ids1 x, ∃ r, rows id = some r := by
 unfold ylen at *
 cases x with
 | own id ver off len =>
  obtain ⟨⟨r, hr, hv⟩, hh⟩ := hy
  exact ⟨⟨⟨r, h id (by simp [ids1]) r hr, hv⟩, hh⟩, by simp [ids1]; exact ⟨r, hr⟩⟩
 | nil => exact ⟨hy, by simp [ids1]⟩
 | sl l => exact ⟨hy, by simp [ids1]⟩
 | slx l => exact ⟨hy, by simp [ids1]⟩
 | _ => exact hy.elim
theorem ynil_le {rows rows' : Rows} {x v : PV} (h : RowsLe (ids1 x) rows rows') (hy : ynil rows x v) : ynil rows' x v ∧ ∀ id ∈ ids1 x, ∃ r, rows id = some r := by
 unfold ynil at *
 cases x with
 | ptr id ver i j =>
  obtain ⟨⟨r, hr, hv⟩, hh⟩ := hy
  exact ⟨⟨⟨r, h id (by simp [ids1]) r hr, hv⟩, hh⟩, by simp [ids1]; exact ⟨r, hr⟩⟩
 | rd l => exact ⟨hy, by simp [ids1]⟩
 | _ => exact hy.elim
theorem ystore_le {t : TypeId} {rows rows' : Rows} {p x v : PV} {u : Option (Nat × Row)} (h : RowsLe (ids1 p ++ ((cellsS x).getD []).flatMap ids1) rows rows') (hy : ystore E t rows p x v u) :
  ystore E t rows' p x v u ∧ (∀ id ∈ ids1 p ++ ((cellsS x).getD []).flatMap ids1, ∃ r, rows id = some r) ∧ ∃ id r, u = some (id, r) ∧ id ∈ ids1 p := by
 obtain ⟨hk, hv, hy⟩ := hy
 cases p with
 | ptr id ver i j =>
  obtain ⟨r, hr, hver, el, hel, l, hl, hone, hh1, hh2, hh3⟩ := hy
  rw [hl] at h ⊢
  simp only [Option.getD_some] at h ⊢
  refine ⟨⟨hk, hv, r, h id (by simp [ids1]) r hr, hver, el, hel, l, hl, fun q hq => one1_le (fun id' hid' => h id' ?_) (hone q hq), hh1, hh2, hh3⟩, ?_, ?_⟩
  ·simp only [List.mem_append, List.mem_flatMap]; exact .inr ⟨q, hq, hid'⟩
  ·intro id' hid'
   simp only [List.mem_append, List.mem_flatMap] at hid'
   rcases hid' with hid' | ⟨q, hq, hid'⟩
   ·simp [ids1] at hid'; subst hid'; exact ⟨r, hr⟩
   ·exact one1_live (hone q hq) id' hid'
  ·exact ⟨id, _, hh3, by simp [ids1]⟩
 | _ => exact hy.elim
theorem ys_le {op : Op} {ρ : Operand → PV} {rows rows' : Rows} {v : PV} {u : Option (Nat × Row)} (h : RowsLe (fpOp op ρ) rows rows') (hy : ys E op ρ rows v u) :
  ys E op ρ rows' v u ∧ (∀ id ∈ fpOp op ρ, ∃ r, rows id = some r) ∧ ∀ id r, u = some (id, r) → id ∈ fpOp op ρ := by
 unfold ys at hy ⊢
 split at hy
 ·rename_i t p x
  obtain ⟨h1, h2, id, r, h3, h4⟩ := ystore_le h hy
  exact ⟨h1, h2, fun id' r' hu => by rw [h3] at hu; cases hu; simp only [fpOp, List.mem_append]; exact .inl h4⟩
 ·rename_i t len parts
  obtain ⟨hy, rfl⟩ := hy
  unfold ylit at hy ⊢
  split at hy
  ·obtain ⟨els, h1, h2, h3, h4, h5, h6, rfl⟩ := hy
   have hfz : ∀ e ∈ els, ∀ p ∈ e, fz rows p = fz rows' p := fun e he p hp => fz_none (h6 e he p hp)
   refine ⟨⟨⟨els, h1, h2, h3, h4, fun e he p hp => ⟨by rw [← hfz e he p hp]; exact (h5 e he p hp).1, one1_le (by rw [h6 e he p hp]; intro id hid; cases hid) (h5 e he p hp).2⟩, h6, ?_⟩, rfl⟩, by simp [fpOp], by simp⟩
   congr 1
   exact List.map_congr_left fun e he => List.map_congr_left fun p hp => hfz e he p hp
  ·exact hy.elim
 ·rename_i f args ts
  obtain ⟨rfl, h1, h2⟩ := hy
  refine ⟨⟨rfl, ?_, h2⟩, by simp [fpOp], by simp⟩
  have : (args.toList.map fun x => pz rows (ρ x)) = args.toList.map fun x => pz rows' (ρ x) :=
   List.map_congr_left fun x hx => pz_none (List.flatMap_eq_nil_iff.1 h2 x hx)
  rw [← this]; exact h1
 ·obtain ⟨hy, rfl⟩ := hy
  suffices hs : yv E op ρ rows' v ∧ ∀ id ∈ fpOp op ρ, ∃ r, rows id = some r from ⟨⟨hs.1, rfl⟩, hs.2, by simp⟩
  unfold yv at hy ⊢
  split at hy
  case h_8 => exact yload_le h hy
  case h_10 => exact yfieldAddr_le h hy
  case h_11 => exact yindexAddr_le h hy
  case h_12 => exact yslice_le h hy
  case h_16 =>
   simp only [fpOp] at h ⊢
   unfold ylenV at hy ⊢
   split at hy
   ·obtain ⟨n, hn, hv⟩ := hy
    have := ylen_le (rows' := rows') h hn
    exact ⟨⟨n, this.1, hv⟩, this.2⟩
   ·exact hy.elim
  case h_19 => exact ynil_le h hy
  all_goals first
   | exact hy.elim
   | exact ⟨hy, by simp [fpOp]⟩
end
end Pm
