import Derived.Test.YtjnkpfknmncdmaaMd
set_option linter.unusedSimpArgs false
set_option linter.unusedVariables false
namespace Pm
open Go Go.RowKit

/-- THE CONTRACT OF A FUNCTION THAT HANDS OUT A NEW ROW: its caller may write into it. -/
def RetO (P : Program) (f : FuncId) (args : List PV) (e : TypeId) (n : Nat) (els : List (List PV)) : Prop :=
  (∃ fn c, P.funcs[f]? = some fn ∧ fn.body = some c ∧ (fn.name == "runtime.NumGoroutine") = false) ∧
  ∀ (w : World) (S : Stab) (vs : List Value), (∀ b o, S b o → b < w.heap.size) → RepList S w args vs →
    Calls P f vs.toArray w fun x w' => ∃ (v : Value) (xs : List Value) (S' : Stab), x = .returned v ∧ Below w.heap.size w w' ∧ (∀ b o, S b o → S' b o) ∧ (∀ b o, S' b o → S b o ∨ (w.heap.size ≤ b ∧ b < w'.heap.size)) ∧
      w'.ownsRow w.heap.size e n v els.length xs ∧ All2 (Rep S' w') els.flatten xs ∧ (∀ y ∈ xs, y.oneCell' = true) ∧ (∀ x ∈ els, x.length = n) ∧ 0 < n ∧ (∀ g o, v.ownBlock = some g → ¬ S' g o)

section
variable {E : Env} {w0 : World} {S0 : Stab} {c : Cx}

theorem results_run (hI : Inv w0 S0 c) {fn : Func} {a : Act} {f : Nat → PV} (hf : ∀ s, RepV c (f s) (a.tmps.getD s undef)) {K : List PV → Prop} (hp : praws E ⟨f, c.rows, c.clock⟩ fn.results.toList K) :
    ∃ vs us, K vs ∧ All2 (RepV c) vs us ∧ (results fn a.tmps).run E.P c.w = .ok (if h : us.toArray.size = 1 then us.toArray[0] else .tuple us.toArray) c.w := by
  have key : ∀ g : ResultVar → Sem Value, (∀ t, g (.tmp t) = pure (a.tmps.getD t undef)) → (∀ x t, g (.cell x t) = do loadVar t (← asAddr (a.tmps.getD x undef))) →
      ∃ vs us, K vs ∧ All2 (RepV c) vs us ∧ (do let vs ← fn.results.mapM g; pure (if h : vs.size = 1 then vs[0] else .tuple vs) : Sem Value).run E.P c.w = .ok (if h : us.toArray.size = 1 then us.toArray[0] else .tuple us.toArray) c.w := by
    intro g hg1 hg2
    obtain ⟨vs, us, g1, g4, g5⟩ := praws_run hI hf hg1 hg2 _ _ hp
    refine ⟨vs, us, g1, g4, ?_⟩
    have : (fn.results.mapM g).run E.P c.w = .ok us.toArray c.w := by
      rw [Array.mapM_eq_mapM_toList]
      simp [g5]
    rw [Sem.run_bind, this, Result.andThen_ok, Sem.run_pure]
  unfold results
  exact key _ (fun _ => rfl) (fun _ _ => rfl)

/-- One result, out of a slot. -/
theorem result_one (hI : Inv w0 S0 c) {fn : Func} {t : Tmp} (hres : fn.results.toList = [.tmp t]) {a : Act} {f : Nat → PV} (hf : ∀ s, RepV c (f s) (a.tmps.getD s undef)) :
    ∃ u, RepV c (f t) u ∧ (results fn a.tmps).run E.P c.w = .ok u c.w := by
  obtain ⟨vs, us, h1, h2, h3⟩ := results_run (E := E) (K := fun vs => vs = [f t]) hI (fn := fn) hf (by rw [hres]; rfl)
  subst h1
  match us, h2 with
  | [u], h2 => exact ⟨u, h2.1, by simpa using h3⟩
  | [], h2 => exact h2.elim
  | _ :: _ :: _, h2 => exact h2.2.elim

def pfinG (t : Tmp) (R : PV → Rows → Nat → Prop) : PX → PS → Prop
  | .normal, σ => R (σ.f t) σ.rows σ.clock
  | .ret, σ => R (σ.f t) σ.rows σ.clock
  | .exit _, _ => False

def pinitR (args : List PV) (rows : Rows) (clk : Nat) : PS := ⟨fun s => args.getD s .undef, rows, clk⟩

theorem init_rep {args : List PV} {vs : List Value} {m : Nat} (h : All2 (RepV c) args vs) (s : Nat) : RepV c (args.getD s .undef) ((vs.toArray ++ Array.replicate m undef).getD s undef) := by
  have hvl := h.length
  by_cases hs : s < args.length
  · obtain ⟨u, hu, hr⟩ := h.get (List.getElem?_eq_getElem hs)
    have e1 : args.getD s .undef = args[s] := by simp [List.getD, List.getElem?_eq_getElem hs]
    have e2 : (vs.toArray ++ Array.replicate m undef).getD s undef = u := by
      have : s < vs.length := by omega
      simp [this] at hu ⊢
      simp [Array.getElem?_append, this, hu]
    rw [e1, e2]; exact hr
  · have e1 : args.getD s .undef = .undef := by simp [List.getD, List.getElem?_eq_none (show args.length ≤ s by omega)]
    rw [e1]
    simp [RepV, RepC]

/-- **THE CONTRACT OF A FUNCTION THAT WRITES INTO ITS CALLER's ROWS**, out of its walk. -/
theorem retG_of_W {fid : FuncId} {fn : Func} {code : Code} (tl : Nat → Nat) {args : List PV} {rows : Rows} {clk : Nat} {R : PV → Rows → Nat → Prop} {t : Tmp} (h1 : E.P.funcs[fid]? = some fn) (h2 : fn.body = some code) (h3 : (fn.name == "runtime.NumGoroutine") = false)
    (hok : codeOK fn.ntmps tl code = true) (hargs : args.length ≤ fn.ntmps) (hres : fn.results.toList = [.tmp t]) (h : W E fn.ntmps tl code (pfinG t R) (pinitR args rows clk)) : RetG E.P fid args rows clk R := by
  refine ⟨⟨fn, code, h1, h2, h3⟩, fun w0 S0 c vs G hI hr hcl hrep hG => ?_⟩
  refine calls_of_wp h1 h2 ?_
  have hvl := hrep.length
  have hR0 : Rel w0 S0 fn.ntmps G (pinitR args rows clk) { tmps := vs.toArray ++ Array.replicate (fn.ntmps - vs.toArray.size) undef, defers := [] } c.w :=
    ⟨⟨c, rfl, hr, hcl, hI, fun s => init_rep hrep s, hG⟩, by simp; omega, rfl⟩
  refine h hok w0 S0 G _ _ _ hR0 ?_
  have fin : ∀ σ' a' w', R (σ'.f t) σ'.rows σ'.clock → Rel w0 S0 fn.ntmps G σ' a' w' → a'.defers = [] ∧ ∃ v, (results fn a'.tmps).run E.P w' = .ok v w' ∧
      ∃ v' c' r, Ending.returned v = .returned v' ∧ c'.w = w' ∧ Inv w0 S0 c' ∧ (∀ p ∈ G, RepV c' p.1 p.2) ∧ R r c'.rows c'.clock ∧ RepV c' r v' := by
    rintro σ' a' w' hx ⟨⟨c', rfl, hr', hcl', hI', hf', hG'⟩, hn, hdef⟩
    obtain ⟨u, hu, hrun⟩ := result_one (E := E) hI' hres hf'
    exact ⟨hdef, u, hrun, u, c', _, rfl, rfl, hI', hG', by rw [hr', hcl']; exact hx, hu⟩
  intro x σ' a' w' hx hR'
  cases x with
  | normal => exact fin σ' a' w' hx hR'
  | ret => exact fin σ' a' w' hx hR'
  | exit id => exact hx.elim

def pfinO (t : Tmp) (e : TypeId) (n : Nat) (els : List (List PV)) : PX → PS → Prop
  | .normal, σ => ∃ id ver, σ.f t = .own id ver 0 els.length ∧ σ.rows id = some ⟨ver, e, n, els⟩ ∧ ∀ x ∈ els, ∀ p ∈ x, pers1 p = true
  | .ret, σ => ∃ id ver, σ.f t = .own id ver 0 els.length ∧ σ.rows id = some ⟨ver, e, n, els⟩ ∧ ∀ x ∈ els, ∀ p ∈ x, pers1 p = true
  | .exit _, _ => False

/-- **THE CONTRACT OF A FUNCTION THAT HANDS OUT A NEW ROW**, out of its walk. -/
theorem retO_of_W {fid : FuncId} {fn : Func} {code : Code} (tl : Nat → Nat) {args : List PV} {e : TypeId} {n : Nat} {els : List (List PV)} {t : Tmp} (h1 : E.P.funcs[fid]? = some fn) (h2 : fn.body = some code) (h3 : (fn.name == "runtime.NumGoroutine") = false)
    (hok : codeOK fn.ntmps tl code = true) (hargs : args.length ≤ fn.ntmps) (hres : fn.results.toList = [.tmp t]) (h : W E fn.ntmps tl code (pfinO t e n els) (pinit args)) : RetO E.P fid args e n els := by
  refine ⟨⟨fn, code, h1, h2, h3⟩, fun w S vs hS hrep => ?_⟩
  refine calls_of_wp h1 h2 ?_
  have hrep' := RepList_iff.1 hrep
  have hvl := hrep'.length
  let c0 : Cx := ⟨S, w, fun _ => .slice none 0 0, fun _ => none, 0⟩
  have hI0 : Inv w S c0 := ⟨Below.refl _ _, fun _ _ h => h, fun _ _ h => .inl h, hS, fun _ _ h => by simp [c0] at h, fun _ _ h => by simp [c0] at h, fun _ _ _ _ _ h => by simp [c0] at h⟩
  have hR0 : Rel w S fn.ntmps Gs.none (pinit args) { tmps := vs.toArray ++ Array.replicate (fn.ntmps - vs.toArray.size) undef, defers := [] } w :=
    ⟨⟨c0, rfl, rfl, rfl, hI0, fun s => init_rep (c := c0) (hrep'.mono fun _ _ h => RepV.of_rep h) s, fun p hp => (Gs.not_none hp).elim⟩, by simp; omega, rfl⟩
  refine h hok w S Gs.none _ _ _ hR0 ?_
  have fin : ∀ (σ' : PS) a' w', (∃ id ver, σ'.f t = .own id ver 0 els.length ∧ σ'.rows id = some ⟨ver, e, n, els⟩ ∧ ∀ x ∈ els, ∀ p ∈ x, pers1 p = true) → Rel w S fn.ntmps Gs.none σ' a' w' → a'.defers = [] ∧ ∃ v, (results fn a'.tmps).run E.P w' = .ok v w' ∧
      ∃ (v' : Value) (xs : List Value) (S' : Stab), Ending.returned v = .returned v' ∧ Below w.heap.size w w' ∧ (∀ b o, S b o → S' b o) ∧ (∀ b o, S' b o → S b o ∨ (w.heap.size ≤ b ∧ b < w'.heap.size)) ∧
      w'.ownsRow w.heap.size e n v' els.length xs ∧ All2 (Rep S' w') els.flatten xs ∧ (∀ y ∈ xs, y.oneCell' = true) ∧ (∀ x ∈ els, x.length = n) ∧ 0 < n ∧ (∀ g o, v'.ownBlock = some g → ¬ S' g o) := by
    rintro σ' a' w' ⟨id, ver, e1, e2, e3⟩ ⟨⟨c, rfl, hr, hcl, hI, hf, _⟩, hn, hdef⟩
    obtain ⟨u, hu, hrun⟩ := result_one (E := E) hI hres hf
    rw [e1] at hu
    rw [← hr] at e2
    obtain ⟨⟨xs, g1, g2, g3⟩, g4, g5, g6⟩ := hI.row id _ e2
    simp only [RepV, RepC] at hu
    obtain ⟨_, hu⟩ := hu
    obtain ⟨_, hu⟩ := hu _ e2 rfl
    have hub : u = c.β id := by
      rcases hu with ⟨_, A, m, cap, h5, h6⟩ | ⟨h5, _⟩
      · rcases g1.2 with ⟨h7, h8⟩ | ⟨g, cap', cur, h7, _⟩
        · rw [h7] at h5; cases h5
          simp only at h8
          rw [h6, h7, h8]
        · rw [h7] at h5; cases h5
          rw [h6, h7]
      · omega
    refine ⟨hdef, u, hrun, u, xs, c.S, rfl, hI.below, hI.ext, hI.new, by rw [hub]; exact g1, ?_, g3, g4, g6, fun g o hg => g5 g o (by rw [← hub]; exact hg)⟩
    refine All2.of_get g2.length fun k p y hp hy => ?_
    obtain ⟨y', hy', hr'⟩ := g2.get hp
    rw [hy] at hy'; cases hy'
    have hmem := List.mem_of_getElem? hp
    obtain ⟨x, hx, hpx⟩ := List.mem_flatten.1 hmem
    exact hr'.rep (e3 x hx p hpx)
  intro x σ' a' w' hx hR'
  cases x with
  | normal => exact fin σ' a' w' hx hR'
  | ret => exact fin σ' a' w' hx hR'
  | exit id => exact hx.elim

/-- What is handed out becomes a row of the caller's, under the name d. -/
theorem RetO.ret {P : Program} {f : FuncId} {args : List PV} {e : TypeId} {n : Nat} {els : List (List PV)} (h : RetO P f args e n els) {vals : List PV} {rows : Rows} {clk : Nat} (d : Nat) (ha : vals.map (pz rows) = args) (hpers : (vals.map (pz rows)).all pers = true) (hp : rowsPers rows (vals.flatMap idsV)) :
    RetG P f vals rows clk (fun r rows' clk' => r = .own d clk 0 els.length ∧ rows' = upd (frR rows (vals.flatMap idsV)) d (some ⟨clk, e, n, els⟩) ∧ clk' = clk + 1) := by
  obtain ⟨h0, hret⟩ := h
  refine ⟨h0, fun w0 S0 c vs G hI hrow hcl hargs hG => ?_⟩
  subst hrow hcl
  generalize hids : vals.flatMap idsV = ids at *
  have hIf := hI.freeze ids
  have hlt : ∀ b o, frS c ids b o → b < c.w.heap.size := fun b o hb => hIf.lt (c := frC c ids) hb
  have hrep : RepList (frS c ids) c.w args vs := by
    rw [← ha]
    refine RepList_iff.2 (All2.of_get (by simp [hargs.length]) fun k p u hp' hu => ?_)
    simp at hp'
    obtain ⟨q, hq, rfl⟩ := hp'
    obtain ⟨u', g1, g2⟩ := hargs.get hq
    rw [hu] at g1; cases g1
    exact pz_rep hI hp g2 (fun id hid => by rw [← hids]; simp only [List.mem_flatMap]; exact ⟨q, List.mem_of_getElem? hq, hid⟩) (List.all_eq_true.1 hpers _ (by simp; exact ⟨q, List.mem_of_getElem? hq, rfl⟩))
  refine (hret c.w (frS c ids) vs hlt hrep).mono ?_
  rintro x w' ⟨v, xs, S', rfl, hb, g1, g2, g3, g4, g5, g6, g7, g8⟩
  obtain ⟨hI2, hA2⟩ := hIf.grow (c := frC c ids) hb g1 g2
  have hA1 := frC_adv c ids
  obtain ⟨hI3, hA3⟩ := hI2.set (w' := w') (ob := v.ownBlock) (id := d) (r' := ⟨c.clock, e, n, els⟩) (v' := v) (xs := xs) (World.grownBy.refl _ _)
    (fun g hg => by
      have hge := (g3.lt g hg).1
      refine ⟨by have := hI.below.size; omega, fun o => g8 g o hg, fun id' r hr _ hb' => ?_⟩
      obtain ⟨⟨ys, q1, _, _⟩, _⟩ := hIf.row id' r hr
      have := (q1.lt g hb').2
      simp only [frC] at this
      omega) ⟨g3.1, g3.2.imp id fun ⟨g, cap, cur, q1, q2, q3⟩ => ⟨g, cap, cur, q1, Nat.le_trans hI.below.size q2, q3⟩⟩ (g4.mono fun _ _ h => RepC.of_rep h) g5 g6 g7 (fun g hg => .inl hg) rfl
  refine ⟨v, _, .own d c.clock 0 els.length, rfl, rfl, hI3, fun p hp' => ?_, ⟨rfl, rfl, rfl⟩, ?_⟩
  · exact RepV.adv hA3 _ _ (RepV.adv hA2 _ _ (RepV.adv hA1 _ _ (hG p hp')))
  · rcases g3.2 with ⟨rfl, h8⟩ | ⟨g, cap', cur, rfl, _⟩
    · have : els.length = 0 := h8
      rw [this]
      exact repV_new (r := ⟨c.clock, e, n, els⟩) (A := none) (cap := 0) (by simp [upd]) (by simpa using h8) (by simp [frC]) (by simp [upd])
    · exact repV_new (r := ⟨c.clock, e, n, els⟩) (by simp [upd]) rfl (by simp [frC]) (by simp [upd])
end

/-- A call that hands out a new row, met by its contract. -/
theorem callO {P : Program} {g : FuncId} {vals : List PV} {rows : Rows} {clk : Nat} {K : PV → Rows → Nat → Prop} {args : List PV} {e : TypeId} {n : Nat} {els : List (List PV)} (h : RetO P g args e n els) (d : Nat) (ha : vals.map (pz rows) = args) (hpers : (vals.map (pz rows)).all pers = true)
    (hp : rowsPers rows (vals.flatMap idsV)) (hK : go (K (.own d clk 0 els.length) (upd (frR rows (vals.flatMap idsV)) d (some ⟨clk, e, n, els⟩)) (clk + 1))) : stepM P g vals rows clk K :=
  ⟨_, h.ret d ha hpers hp, by rintro r rows' clk' ⟨rfl, rfl, rfl⟩; exact hK⟩
/-- The frame of a call's beginning. -/
theorem retO_of_Wf {E : Env} {fid : FuncId} {fn : Func} {code : Code} (tl : Nat → Nat) {args : List PV} {e : TypeId} {n : Nat} {els : List (List PV)} {t : Tmp} (l : List (Nat × PV)) (h1 : E.P.funcs[fid]? = some fn) (h2 : fn.body = some code) (h3 : (fn.name == "runtime.NumGoroutine") = false)
    (hok : codeOK fn.ntmps tl code = true) (hargs : args.length ≤ fn.ntmps) (hres : fn.results.toList = [.tmp t]) (hl : ∀ p ∈ l, args.getD p.1 .undef = p.2) (h : W E fn.ntmps tl code (pfinO t e n els) ⟨fa l, fun _ => none, 0⟩) : RetO E.P fid args e n els :=
  retO_of_W tl h1 h2 h3 hok hargs hres (W.ghf l (by simpa using hl) h)
theorem retG_of_Wf {E : Env} {fid : FuncId} {fn : Func} {code : Code} (tl : Nat → Nat) {args : List PV} {rows : Rows} {clk : Nat} {R : PV → Rows → Nat → Prop} {t : Tmp} (l : List (Nat × PV)) (h1 : E.P.funcs[fid]? = some fn) (h2 : fn.body = some code) (h3 : (fn.name == "runtime.NumGoroutine") = false)
    (hok : codeOK fn.ntmps tl code = true) (hargs : args.length ≤ fn.ntmps) (hres : fn.results.toList = [.tmp t]) (hl : ∀ p ∈ l, args.getD p.1 .undef = p.2) (h : W E fn.ntmps tl code (pfinG t R) ⟨fa l, rows, clk⟩) : RetG E.P fid args rows clk R :=
  retG_of_W tl h1 h2 h3 hok hargs hres (W.ghf l (by simpa using hl) h)
/-! A COPY INTO A ROW OF THE CALL's OWN. -/
def ycopyK (t : TI) (rows : Rows) (x y : PV) (K : PV → Rows → Prop) : Prop :=
  match t, x with
  | .slice _ n _ _, .own id ver off len => n = 1 ∧ ∃ r, rows id = some r ∧ r.ver = ver ∧ r.size = n ∧ off + len ≤ r.els.length ∧ 0 < len ∧ ∃ l, ysrc rows y l ∧ (∀ e ∈ l, e.length = n) ∧
      K (.int .i64 (min l.length len)) (upd rows id (some { r with els := r.els.take off ++ l.take len ++ r.els.drop (off + min l.length len) }))
  | _, _ => False
@[simp] theorem go_copy {E : Env} {ops os : List Oper} {K : PS → Prop} {f : Nat → PV} {rows : Rows} {clk : Nat} {d : Option Tmp} {ty : TypeId} {pos : String} {af : Array Edge} {x y : Operand} {t t2 : TypeId} :
    go (pops E ops (⟨d, .call { callee := .builtin .copy, args := ⟨[x, y]⟩, argTypes := ⟨[t, t2]⟩ }, ty, pos, af, none⟩ :: os) K ⟨f, rows, clk⟩) = ycopyK (E.ty t) rows (evf f x) (evf f y) fun v rows => pops E ops os K ⟨put f d v, rows, clk⟩ := by
  simp only [go, pops, pfree, ycopyK]
  generalize E.ty t = T
  generalize evf f x = X
  cases T <;> cases X <;> rfl
@[congr] theorem ycopyK_congr {t t' : TI} {rows rows' : Rows} {x x' y y' : PV} {K : PV → Rows → Prop} (h1 : t = t') (h2 : rows = rows') (h3 : x = x') (h4 : y = y') : ycopyK t rows x y K = ycopyK t' rows' x' y' K := by rw [h1, h2, h3, h4]
theorem copyK {e e' : TypeId} {b : Nat} {z : List PV} {rows : Rows} {id ver off len : Nat} {y : PV} {K : PV → Rows → Prop} {els l : List (List PV)} (hr : rows id = some ⟨ver, e', 1, els⟩) (hl : off + len ≤ els.length) (h0 : 0 < len) (hy : ysrc rows y l) (h1 : ∀ e ∈ l, e.length = 1)
    (hK : go (K (.int .i64 (min l.length len)) (upd rows id (some ⟨ver, e', 1, els.take off ++ l.take len ++ els.drop (off + min l.length len)⟩)))) : ycopyK (.slice e 1 b z) rows (.own id ver off len) y K :=
  ⟨rfl, _, hr, rfl, rfl, hl, h0, l, hy, h1, hK⟩
/-- What the text alone shows. -/
theorem stepTxt {c B : Prop} (h : c) (hB : go B) : stepA c B := ⟨h, hB⟩
end Pm
