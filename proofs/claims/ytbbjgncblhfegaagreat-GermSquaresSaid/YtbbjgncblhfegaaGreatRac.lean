import Derived.StillTail
import Derived.Deep.LoopGhost
import Derived.Test.YtbbjgncblhfegaaGreatRab
set_option linter.unusedSimpArgs false
set_option linter.unusedVariables false
namespace Pm
open Go Go.RowKit
def gD (P : Program) (f : FuncId) (args : List PV) (e : TypeId) (n : Nat) (els : List (List PV)) : Prop :=
 (∃ fn c, P.funcs[f]? = some fn ∧ fn.body = some c ∧ (fn.name == "runtime.NumGoroutine") = false) ∧
 ∀ (w : World) (S : c9) (vs : List Value), (∀ b o, S b o → b < w.heap.size) → bI S w args vs →
  Calls P f vs.toArray w fun x w' => ∃ (v : Value) (xs : List Value) (S' : c9), x = .returned v ∧ Below w.heap.size w w' ∧ (∀ b o, S b o → S' b o) ∧ (∀ b o, S' b o → S b o ∨ (w.heap.size ≤ b ∧ b < w'.heap.size)) ∧
   w'.ownsRow w.heap.size e n v els.length xs ∧ a7 (cJ S' w') els.flatten xs ∧ (∀ y ∈ xs, y.oneCell' = true) ∧ (∀ x ∈ els, x.length = n) ∧ 0 < n ∧ (∀ g o, v.ownBlock = some g → ¬ S' g o)
def SN (md : Region.Mode) (ops : List Oper) (j k : Nat) : Bool :=
 match ops[j]? with
 | some o => o.after.toList.any fun e => Region.binds md e && e.on == k
 | none => false
def nK (md : Region.Mode) (ops : List Oper) (j k : Nat) : Bool := SN md ops j k || (List.range ops.length).any fun h => SN md ops j h && SN md ops h k
structure ST where
 f : Nat → PV
 rows : Rows
 bK : Nat → Nat → Prop
 wl : Nat → Nat → Prop
def cT (E : Env) : Op → Bool
 | .alloc _ => true
 | .box _ _ => true
 | .makeSlice _ _ _ => true
 | .call { callee := .builtin .append, args := ⟨[_, _]⟩, argTypes := ⟨[_, _]⟩ } => true
 | .call { callee := .value (.func g), args := _, argTypes := _ } => E.writes g
 | _ => false
def rN (E : Env) (ops : List Oper) : Bool := ops.all fun o => !cT E o.op || (o.dst.isSome && o.guard.isNone)
def rk (E : Env) (ops : List Oper) (i : Nat) : Nat := ((ops.take i).filter fun o => cT E o.op).length
theorem PJ {E : Env} {ops : List Oper} {i : Nat} {o : Oper} (h : ops[i]? = some o) : rk E ops (i + 1) = rk E ops i + if cT E o.op = true then 1 else 0 := by
 unfold rk
 rw [List.take_add_one, h]
 simp only [Option.toList_some, List.filter_append, List.length_append]
 congr 1
 cases hn : cT E o.op <;> simp [hn]
theorem acf {E : Env} {ops : List Oper} {i j : Nat} (h : i ≤ j) : rk E ops i ≤ rk E ops j := by
 unfold rk
 have : (ops.take i).Sublist (ops.take j) := by
  have := List.take_sublist i (ops.take j)
  rwa [List.take_take, Nat.min_eq_left h] at this
 exact (this.filter _).length_le
theorem WN {E : Env} {ops : List Oper} {i j : Nat} {o : Oper} (h : ops[i]? = some o) (hn : cT E o.op = true) (hij : i < j) : rk E ops i < rk E ops j := by
 have h1 := PJ (E := E) h
 rw [if_pos hn] at h1
 have := acf (E := E) (ops := ops) (show i + 1 ≤ j from hij)
 omega
theorem ahb {E : Env} {ops : List Oper} {i j : Nat} {o o' : Oper} (h : ops[i]? = some o) (hn : cT E o.op = true) (h' : ops[j]? = some o') (vT : cT E o'.op = true) (he : rk E ops i = rk E ops j) : i = j := by
 rcases Nat.lt_trichotomy i j with h1 | h1 | h1
 ·have := WN h hn h1; omega
 ·exact h1
 ·have := WN h' vT h1; omega
def oY (t : TI) (rows : Rows) (x y : PV) (c0 d : Nat) (v : PV) (u : Option (Nat × Row)) : Prop :=
 match t with
 | .slice e n b _ => ∃ l, sP rows y l ∧ (∀ e ∈ l, e.length = n) ∧
  match x with
  | .nil => l.length ≤ room ∧ l.length * b ≤ room ∧ v = .own d c0 0 l.length ∧ u = some (d, ⟨c0, e, n, l⟩)
  | .own id ver off len => ∃ r, rows id = some r ∧ r.ver = ver ∧ off = 0 ∧ len = r.els.length ∧ r.e = e ∧ r.size = n ∧ len + l.length ≤ room ∧ (len + l.length) * b ≤ room ∧
    v = .own id c0 0 (len + l.length) ∧ u = some (id, ⟨c0, e, n, r.els ++ l⟩)
  | _ => False
 | _ => False
def ae1 (E : Env) (g : FuncId) (args : List PV) (c0 d : Nat) (v : PV) (u : Option (Nat × Row)) : Prop :=
 args.all eW = true ∧ ∃ e n els, gD E.P g args e n els ∧ v = .own d c0 0 els.length ∧ u = some (d, ⟨c0, e, n, els⟩)
def yn (E : Env) (c0 : Nat) (d : Option Tmp) (op : Op) (ρ : Operand → PV) (rows : Rows) (v : PV) (u : Option (Nat × Row)) : Prop :=
 match op with
 | .alloc t => (E.ty t).known = true ∧ v = .ptr (d.getD 0) c0 0 0 ∧ u = some (d.getD 0, ⟨c0, t, (E.ty t).size, [(E.ty t).zero]⟩)
 | .box t x => (E.ty t).known = true ∧ ∃ l, bO (ρ x) = some l ∧ (∀ q ∈ l, gS (fun _ => none) q) ∧ l.length = (E.ty t).size ∧ v = .ptr (d.getD 0) c0 0 0 ∧ u = some (d.getD 0, ⟨c0, t, (E.ty t).size, [l]⟩)
 | .makeSlice t l c =>
  match E.ty t, ρ l, ρ c with
  | .slice e n b z, .int _ x, .int _ y => 0 ≤ x ∧ x ≤ y ∧ y.toNat ≤ room ∧ y.toNat * b ≤ room ∧ v = .own (d.getD 0) c0 0 x.toNat ∧ u = some (d.getD 0, ⟨c0, e, n, List.replicate x.toNat z⟩)
  | _, _, _ => False
 | .call { callee := .builtin .append, args := ⟨[x, y]⟩, argTypes := ⟨[t, t2]⟩ } => (t2 = t ∨ WG (E.ty t2) = true) ∧ oY (E.ty t) rows (ρ x) (ρ y) c0 (d.getD 0) v u
 | .call { callee := .value (.func g), args := aAz, argTypes := ts } => if E.writes g = true then ae1 E g (aAz.toList.map fun x => ρ x) c0 (d.getD 0) v u else ys E (.call { callee := .value (.func g), args := aAz, argTypes := ts }) ρ rows v u
 | op => ys E op ρ rows v u
theorem yR {E : Env} {c0 : Nat} {d : Option Tmp} {op : Op} {ρ : Operand → PV} {rows : Rows} {v : PV} {u : Option (Nat × Row)} (h : cT E op = false) : yn E c0 d op ρ rows v u = ys E op ρ rows v u := by
 unfold yn
 split
 all_goals first
  | rfl
  | (simp [cT] at h; done)
  | (simp only [cT] at h; rw [if_neg (by rw [h]; decide)])
theorem lR {E : Env} {op : Op} {C : Prop} (h : cT E op = true) (h1 : ∀ t, op = .alloc t → C) (h2 : ∀ t x, op = .box t x → C) (h3 : ∀ t l c, op = .makeSlice t l c → C)
  (h4 : ∀ x y t t2, op = .call { callee := .builtin .append, args := ⟨[x, y]⟩, argTypes := ⟨[t, t2]⟩ } → C) (h5 : ∀ g aAz ts, op = .call { callee := .value (.func g), args := aAz, argTypes := ts } → E.writes g = true → C) : C := by
 unfold cT at h
 split at h
 ·exact h1 _ rfl
 ·exact h2 _ _ rfl
 ·exact h3 _ _ _ rfl
 ·exact h4 _ _ _ _ rfl
 ·exact h5 _ _ _ rfl h
 ·cases h
theorem acg {rows rows' : Rows} {y : PV} {l : List (List PV)} (h : iY (aZ y) rows rows') (hy : sP rows y l) : sP rows' y l ∧ ∀ id ∈ aZ y, ∃ r, rows id = some r := by
 unfold sP at *
 cases y with
 | own id ver off len =>
  obtain ⟨r, hr, hh⟩ := hy
  exact ⟨⟨r, h id (by simp [aZ]) r hr, hh⟩, by simp [aZ]; exact ⟨r, hr⟩⟩
 | nil => exact ⟨hy, by simp [aZ]⟩
 | sl l => exact ⟨hy, by simp [aZ]⟩
 | iV l => exact ⟨hy, by simp [aZ]⟩
 | _ => exact hy.elim
theorem WO {t : TI} {rows rows' : Rows} {x y v : PV} {c0 d : Nat} {u : Option (Nat × Row)} (h : iY (aZ x ++ aZ y) rows rows') (hy : oY t rows x y c0 d v u) : oY t rows' x y c0 d v u ∧ ∀ id ∈ aZ x ++ aZ y, ∃ r, rows id = some r := by
 unfold oY at *
 cases t with
 | slice e n b z =>
  obtain ⟨l, h1, h2, h3⟩ := hy
  obtain ⟨g1, g2⟩ := acg (fun id gI => h id (by simp only [List.mem_append]; exact .inr gI)) h1
  cases x with
  | nil => exact ⟨⟨l, g1, h2, h3⟩, fun id gI => g2 id (by simpa [aZ] using gI)⟩
  | own id ver off len =>
   obtain ⟨r, hr, hh⟩ := h3
   refine ⟨⟨l, g1, h2, r, h id (by simp [aZ]) r hr, hh⟩, fun iS gI => ?_⟩
   simp only [aZ, List.mem_append, List.mem_cons, List.not_mem_nil, or_false] at gI
   rcases gI with rfl | gI
   ·exact ⟨r, hr⟩
   ·exact g2 iS gI
  | _ => exact h3.elim
 | _ => exact hy.elim
theorem PK {E : Env} {c0 : Nat} {d : Option Tmp} {op : Op} {ρ : Operand → PV} {rows rows' : Rows} {v : PV} {u : Option (Nat × Row)} (h : iY (gM op ρ) rows rows') (hy : yn E c0 d op ρ rows v u) :
  yn E c0 d op ρ rows' v u ∧ (∀ id ∈ gM op ρ, ∃ r, rows id = some r) ∧ ∀ id r, u = some (id, r) → (cT E op = true ∧ id = d.getD 0) ∨ id ∈ gM op ρ := by
 cases hn : cT E op with
 | false =>
  rw [yR hn] at hy ⊢
  obtain ⟨h1, h2, h3⟩ := ae0 h hy
  exact ⟨h1, h2, fun id r hu => .inr (h3 id r hu)⟩
 | true =>
  refine lR hn ?_ ?_ ?_ ?_ ?_
  ·rintro t rfl
   refine ⟨hy, by simp [gM], fun id r hu => .inl ⟨by first | trivial | rfl, ?_⟩⟩
   obtain ⟨_, _, rfl⟩ := hy
   simp at hu; exact hu.1.symm
  ·rintro t x rfl
   refine ⟨hy, by simp [gM], fun id r hu => .inl ⟨by first | trivial | rfl, ?_⟩⟩
   obtain ⟨_, _, _, _, _, _, rfl⟩ := hy
   simp at hu; exact hu.1.symm
  ·rintro t l c rfl
   refine ⟨hy, by simp [gM], fun id r hu => .inl ⟨by first | trivial | rfl, ?_⟩⟩
   simp only [yn] at hy
   split at hy
   ·obtain ⟨_, _, _, _, _, rfl⟩ := hy
    simp at hu; exact hu.1.symm
   ·exact hy.elim
  ·rintro x y t t2 rfl
   simp only [yn, gM] at hy h ⊢
   obtain ⟨h2, h3⟩ := hy
   obtain ⟨g1, g2⟩ := WO h h3
   refine ⟨⟨h2, g1⟩, g2, fun id r hu => ?_⟩
   unfold oY at h3
   split at h3
   ·obtain ⟨l, _, _, h3⟩ := h3
    split at h3
    ·obtain ⟨_, _, _, rfl⟩ := h3
     simp at hu; exact .inl ⟨by first | trivial | rfl, hu.1.symm⟩
    ·rename_i hx
     obtain ⟨_, _, _, _, _, _, _, _, _, _, rfl⟩ := h3
     simp at hu
     rw [hx]
     exact .inr (by simp [aZ, hu.1])
    ·exact h3.elim
   ·exact h3.elim
  ·rintro g aAz ts rfl hw
   simp only [yn] at hy ⊢
   rw [if_pos hw] at hy
   rw [if_pos hw]
   refine ⟨hy, by simp [gM], fun id r hu => .inl ⟨by first | trivial | exact hw, ?_⟩⟩
   obtain ⟨_, _, _, _, _, _, rfl⟩ := hy
   simp at hu; exact hu.1.symm
open Classical in
noncomputable def dJ (md : Region.Mode) (ops : List Oper) (j : Nat) (wl : Nat → Nat → Prop) (rows : Rows) : Rows := fun id => if ∃ k, wl k id ∧ nK md ops j k = false then none else rows id
theorem jN {md : Region.Mode} {ops : List Oper} {j id : Nat} {wl : Nat → Nat → Prop} {rows : Rows} {r : Row} : dJ md ops j wl rows id = some r ↔ (∀ k, wl k id → nK md ops j k = true) ∧ rows id = some r := by
 unfold dJ
 split
 ·rename_i h
  obtain ⟨k, h1, h2⟩ := h
  simp only [reduceCtorEq, false_iff, not_and]
  intro h3
  rw [h3 k h1] at h2; cases h2
 ·rename_i h
  refine ⟨fun h2 => ⟨fun k hk => ?_, h2⟩, fun h2 => h2.2⟩
  cases hd : nK md ops j k with
  | true => rfl
  | false => exact absurd ⟨k, hk, hd⟩ h
def yS (md : Region.Mode) (ops : List Oper) (i id : Nat) (bK : Nat → Nat → Prop) : Prop := ∀ k, bK k id → nK md ops i k = true
def SO (md : Region.Mode) (ops : List Oper) (i : Nat) (u : Option (Nat × Row)) (bK : Nat → Nat → Prop) : Prop :=
 match u with
 | none => True
 | some (id, _) => yS md ops i id bK
def gOK (ops : Array Oper) (o : Oper) (f : Nat → PV) (b : Bool) : Prop :=
 match o.guard with
 | none => b = true
 | some (j, want) => ∃ d, (ops[j]?).bind (·.dst) = some d ∧ ((f d = .bool want ∧ b = true) ∨ ((f d = .bool (!want) ∨ f d = .eA []) ∧ b = false))
def YG (E : Env) (md : Region.Mode) (ops : Array Oper) (c0 : Nat) (i : Nat) (o : Oper) (b : Bool) (v : PV) (u : Option (Nat × Row)) (st : ST) : Prop :=
 gOK ops o st.f b ∧ if b = true then yn E (c0 + rk E ops.toList i) o.dst o.op (aQ st.f) (dJ md ops.toList i st.wl st.rows) v u else v = .eA [] ∧ u = none
def wlU (i : Nat) (u : Option (Nat × Row)) (wl : Nat → Nat → Prop) : Nat → Nat → Prop :=
 match u with
 | none => wl
 | some (id, _) => fun k iS => (k = i ∧ iS = id) ∨ wl k iS
def app (i : Nat) (o : Oper) (b : Bool) (v : PV) (u : Option (Nat × Row)) (st : ST) : ST :=
 { f := put st.f o.dst v, rows := fC st.rows u, bK := fun k id => (b = true ∧ k = i ∧ id ∈ gM o.op (aQ st.f)) ∨ st.bK k id, wl := wlU i u st.wl }
def gN (E : Env) (op : Op) (clk : Nat) : Nat :=
 match op with
 | .alloc _ => clk + 1
 | .box _ _ => clk + 1
 | .makeSlice _ _ _ => clk + 1
 | .call { callee := .builtin .append, args := ⟨[_, _]⟩, argTypes := ⟨[_, _]⟩ } => clk + 1
 | .call { callee := .value (.func g), args := _, argTypes := _ } => if E.writes g = true then clk + 1 else clk
 | _ => clk
theorem yT {E : Env} {op : Op} {clk : Nat} (h : cT E op = false) : gN E op clk = clk := by
 unfold gN
 split
 all_goals first
  | rfl
  | (simp [cT] at h; done)
  | (simp only [cT] at h; rw [if_neg (by rw [h]; decide)])
theorem WQ {E : Env} {op : Op} {clk : Nat} (h : cT E op = true) : gN E op clk = clk + 1 := by
 refine lR h ?_ ?_ ?_ ?_ ?_
 ·rintro t rfl; rfl
 ·rintro t x rfl; rfl
 ·rintro t l c rfl; rfl
 ·rintro x y t t2 rfl; rfl
 ·rintro g aAz ts rfl hw; simp only [gN]; rw [if_pos hw]
theorem aci {E : Env} {ops : List Oper} {i c0 : Nat} {o : Oper} (h : ops[i]? = some o) : gN E o.op (c0 + rk E ops i) = c0 + rk E ops (i + 1) := by
 rw [PJ h]
 cases hn : cT E o.op with
 | false => rw [yT hn]; simp
 | true => rw [WQ hn]; simp; omega
def WR (E : Env) (md : Region.Mode) (ops : Array Oper) (c0 : Nat) (i : Nat) (K : ST → Prop) (st : ST) : Prop :=
 match ops[i]? with
 | none => K st
 | some o => ∃ b v u, YG E md ops c0 i o b v u st ∧ SO md ops.toList i u st.bK ∧ K (app i o b v u st)
section
variable {E : Env} {ops : Array Oper} {md : Region.Mode}
theorem WS {c0 i : Nat} {K K' : ST → Prop} {st : ST} (h : ∀ st, K st → K' st) (hh : WR E md ops c0 i K st) : WR E md ops c0 i K' st := by
 unfold WR at *
 split
 ·exact h _ (by simpa [*] using hh)
 ·rename_i o ho
  simp only [ho] at hh
  obtain ⟨b, v, u, h1, h2, h3⟩ := hh
  exact ⟨b, v, u, h1, h2, h _ h3⟩
theorem PL {f : Nat → PV} {d : Option Tmp} {v : PV} {x : Operand} (h : ∀ t, d = some t → x ≠ .tmp t) : aQ (put f d v) x = aQ f x := by
 cases d with
 | none => rfl
 | some t =>
  cases x with
  | tmp s =>
   have : s ≠ t := fun e => h t rfl (by rw [e])
   simp [aQ, put, this]
  | _ => rfl
theorem WT {op : Op} {ρ ρ' : Operand → PV} {rows : Rows} {v : PV} {u : Option (Nat × Row)} (h : ∀ x ∈ op.operands, ρ x = ρ' x) : ys E op ρ rows v u ↔ ys E op ρ' rows v u := by
 have parts : ∀ ps : Array (Nat × Operand), (∀ x ∈ (ps.toList.map (·.2)).toArray, ρ x = ρ' x) → (ps.toList.map fun x => (x.1, ρ x.2)) = ps.toList.map fun x => (x.1, ρ' x.2) := fun ps hp =>
  List.map_congr_left fun p hm => by rw [hp p.2 (by simp; exact ⟨p.1, by simpa using hm⟩)]
 have args : ∀ (c : Call), (∀ x ∈ c.operands, ρ x = ρ' x) → ∀ x ∈ c.args.toList, ρ x = ρ' x := fun c hc x hx => hc x (by simp [Call.operands]; exact .inr (by simpa using hx))
 unfold ys
 split
 ·rename_i t p x
  rw [h p (by simp [Op.operands]), h x (by simp [Op.operands])]
 ·rename_i t len ps
  rw [parts ps (by simpa [Op.operands] using h)]
 ·rename_i f aAz ts
  have ha := args _ (by simpa [Op.operands] using h)
  simp only at ha
  rw [h f (by simp [Op.operands, Call.operands]), List.map_congr_left (g := fun x => pz rows (ρ' x)) fun x hx => by rw [ha x hx]]
  have : (aAz.toList.flatMap fun x => dA (ρ x)) = aAz.toList.flatMap fun x => dA (ρ' x) := by
   rw [List.flatMap_def, List.flatMap_def]
   congr 1
   exact List.map_congr_left fun x hx => by rw [ha x hx]
  rw [this]
 ·suffices hs : yv E op ρ rows v ↔ yv E op ρ' rows v by rw [hs]
  unfold yv
  split
  case h_12 =>
   rename_i t x lo hi mx _ _ _
   have o1 : ∀ y : Option Operand, (∀ z, y = some z → ρ z = ρ' z) → y.map ρ = y.map ρ' := by
    intro y hy; cases y with
    | none => rfl
    | some z => simp [hy z rfl]
   rw [h x (by simp [Op.operands]), o1 lo fun z hz => h z (by subst hz; simp [Op.operands]), o1 hi fun z hz => h z (by subst hz; simp [Op.operands]), o1 mx fun z hz => h z (by subst hz; simp [Op.operands])]
  case h_13 => rename_i t ps _ _ _; rw [parts ps (by simpa [Op.operands] using h)]
  case h_15 =>
   rename_i f bQ _ _ _
   rw [List.map_congr_left (l := bQ.toList) (f := fun x => ρ x) (g := fun x => ρ' x) fun x hx => h x (by simp [Op.operands]; simpa using hx)]
  all_goals first
   | rfl
   | (simp only [Op.operands, Call.operands] at h; simp [h])
theorem yU {op : Op} {ρ ρ' : Operand → PV} (h : ∀ x ∈ op.operands, ρ x = ρ' x) : gM op ρ = gM op ρ' := by
 unfold gM
 split
 all_goals first
  | rfl
  | (simp only [Op.operands, Call.operands] at h; simp [h])
theorem G3 {c0 : Nat} {d : Option Tmp} {op : Op} {ρ ρ' : Operand → PV} {rows : Rows} {v : PV} {u : Option (Nat × Row)} (h : ∀ x ∈ op.operands, ρ x = ρ' x) : yn E c0 d op ρ rows v u ↔ yn E c0 d op ρ' rows v u := by
 cases hn : cT E op with
 | false => rw [yR hn, yR hn]; exact WT h
 | true =>
  refine lR hn ?_ ?_ ?_ ?_ ?_
  ·rintro t rfl; exact Iff.rfl
  ·rintro t x rfl
   simp only [yn]
   rw [h x (by simp [Op.operands])]
  ·rintro t l c rfl
   simp only [yn]
   rw [h l (by simp [Op.operands]), h c (by simp [Op.operands])]
  ·rintro x y t t2 rfl
   simp only [yn]
   rw [h x (by simp [Op.operands, Call.operands]), h y (by simp [Op.operands, Call.operands])]
  ·rintro g aAz ts rfl hw
   simp only [yn]
   rw [if_pos hw, if_pos hw, List.map_congr_left (l := aAz.toList) (f := fun x => ρ x) (g := fun x => ρ' x) fun x hx => h x (by simp [Op.operands, Call.operands]; exact .inr (by simpa using hx))]
theorem G4 {o : Oper} {d : Tmp} {x : Operand} (h : d ∉ o.looksAt ops) (hx : x ∈ o.op.operands) : x ≠ .tmp d := by
 rintro rfl
 exact h (List.mem_append_left _ (List.mem_filterMap.2 ⟨.tmp d, by simpa using hx, rfl⟩))
theorem LV {c : Cx} : aJ c (.eA []) undef := by
 show cJ c.S c.w (.eA []) undef
 simp only [cJ]
 exact ⟨[], rfl, rfl⟩
theorem gE {c : Cx} {tmps : Array Value} {j : Nat} {d : Tmp} {t : Bool} (h1 : (ops[j]?).bind (·.dst) = some d) (h : aJ c (.bool t) (tmps.getD d undef)) : yielded ops tmps j = some t := by
 rw [cW] at h
 unfold yielded
 rw [h1]
 simp only [Option.bind_some]
 cases hx : tmps[d]? with
 | none => simp [hx] at h; cases h
 | some y =>
  have hy : y = .bool t := by simpa [hx] using h
  rw [hy]
theorem rO {c : Cx} {tmps : Array Value} {j : Nat} {d : Tmp} (h1 : (ops[j]?).bind (·.dst) = some d) (h : aJ c (.eA []) (tmps.getD d undef)) : yielded ops tmps j = none := by
 have h2 : tmps.getD d undef = .tuple #[] := by
  have h3 : cJ c.S c.w (.eA []) (tmps.getD d undef) := h
  simp only [cJ] at h3
  obtain ⟨vs, h4, h5⟩ := h3
  simp only [bI] at h5
  rw [h4, h5]
 unfold yielded
 rw [h1]
 simp only [Option.bind_some]
 cases hx : tmps[d]? with
 | none => rfl
 | some y =>
  have hy : y = .tuple #[] := by simpa [hx] using h2
  rw [hy]
theorem PM {o : Oper} {f : Nat → PV} {dd : Option Tmp} {v : PV} {b : Bool} (h : ∀ d, dd = some d → d ∉ o.looksAt ops) : gOK ops o (put f dd v) b ↔ gOK ops o f b := by
 unfold gOK
 cases hg : o.guard with
 | none => rfl
 | some g =>
  obtain ⟨j, want⟩ := g
  simp only
  have key : ∀ d, (ops[j]?).bind (·.dst) = some d → put f dd v d = f d := by
   intro d h1
   cases dd with
   | none => rfl
   | some e =>
    have pW : d ≠ e := by
     rintro rfl
     exact h d rfl (List.mem_append_right _ (by simp [hg, h1]))
    simp [put, pW]
  constructor
  ·rintro ⟨d, h1, h2⟩
   rw [key d h1] at h2
   exact ⟨d, h1, h2⟩
  ·rintro ⟨d, h1, h2⟩
   rw [← key d h1] at h2
   exact ⟨d, h1, h2⟩
theorem put_comm {f : Nat → PV} {x y : Option Tmp} {v u : PV} (h : ∀ d, x = some d → y ≠ some d) : put (put f x v) y u = put (put f y u) x v := by
 cases x with
 | none => rfl
 | some d =>
  cases y with
  | none => rfl
  | some e =>
   have pW : d ≠ e := fun he => h d rfl (by rw [he])
   funext j
   simp only [put]
   split <;> split <;> simp_all
theorem yV {rows : Rows} {u : Option (Nat × Row)} {j : Nat} (h : ∀ r, u ≠ some (j, r)) : fC rows u j = rows j := by
 cases u with
 | none => rfl
 | some x =>
  obtain ⟨i, r⟩ := x
  simp only [fC, dC]
  rw [if_neg]
  rintro rfl
  exact h r rfl
theorem nM {i : Nat} {u : Option (Nat × Row)} {wl : Nat → Nat → Prop} {k id : Nat} : wlU i u wl k id ↔ (k = i ∧ ∃ r, u = some (id, r)) ∨ wl k id := by
 cases u with
 | none => simp [wlU]
 | some x =>
  obtain ⟨iS, r⟩ := x
  simp only [wlU, Option.some.injEq, Prod.mk.injEq]
  constructor
  ·rintro (⟨h1, h2⟩ | h)
   ·exact .inl ⟨h1, r, h2.symm, rfl⟩
   ·exact .inr h
  ·rintro (⟨h1, r', h2, _⟩ | h)
   ·exact .inl ⟨h1, h2.symm⟩
   ·exact .inr h
theorem EK {i : Nat} {u : Option (Nat × Row)} {bK : Nat → Nat → Prop} : SO md ops.toList i u bK ↔ ∀ id r, u = some (id, r) → ∀ k, bK k id → nK md ops.toList i k = true := by
 cases u with
 | none => simp [SO]
 | some x =>
  obtain ⟨iS, r⟩ := x
  simp only [SO, yS, Option.some.injEq, Prod.mk.injEq]
  constructor
  ·rintro h _ _ ⟨rfl, _⟩; exact h
  ·intro h; exact h _ _ ⟨rfl, rfl⟩
theorem acj {c0 i j : Nat} {oi oj : Oper} {bi : Bool} {vi : PV} {ui : Option (Nat × Row)} (hj : ops[j]? = some oj) (V8 : oi.apart ops oj = true) (hds : cT E oi.op = true → oi.dst.isSome = true) (arT : cT E oj.op = true → oj.dst.isSome = true) (hdj : nK md ops.toList j i = false) {K : ST → Prop} {st : ST}
  (hy : YG E md ops c0 i oi bi vi ui st) (ho : SO md ops.toList i ui st.bK) (h : WR E md ops c0 j K (app i oi bi vi ui st)) :
  WR E md ops c0 j (fun PN => YG E md ops c0 i oi bi vi ui PN ∧ SO md ops.toList i ui PN.bK ∧ K (app i oi bi vi ui PN)) st := by
 obtain ⟨h1, h2, h3⟩ := Oper.apart_spec V8
 unfold WR at h ⊢
 simp only [hj] at h ⊢
 obtain ⟨bj, vj, uj, ⟨hgj, hyj⟩, hoj, hK⟩ := h
 obtain ⟨hgi, SP⟩ := hy
 rw [EK] at hoj ho
 have ej : ∀ x ∈ oj.op.operands, aQ (put st.f oi.dst vi) x = aQ st.f x := fun x hx => PL fun t ht => G4 (h1 t ht) hx
 have ei : ∀ x ∈ oi.op.operands, aQ (put st.f oj.dst vj) x = aQ st.f x := fun x hx => PL fun t ht => G4 (h3 t ht) hx
 have arU : gOK ops oj st.f bj := (PM h1).1 hgj
 have hnw : ∀ id r, dJ md ops.toList j (app i oi bi vi ui st).wl (app i oi bi vi ui st).rows id = some r → ∀ r', ui ≠ some (id, r') := by
  intro id r hr r' hu
  obtain ⟨hw, _⟩ := jN.1 hr
  have := hw i (nM.2 (.inl ⟨rfl, r', hu⟩))
  rw [hdj] at this; cases this
 have hle : ∀ ids, iY ids (dJ md ops.toList j (app i oi bi vi ui st).wl (app i oi bi vi ui st).rows) (dJ md ops.toList j st.wl st.rows) := by
  intro ids id _ r hr
  have hn := hnw id r hr
  obtain ⟨hw, jI⟩ := jN.1 hr
  simp only [app] at jI hw
  rw [yV hn] at jI
  exact jN.2 ⟨fun k hk => hw k (nM.2 (.inr hk)), jI⟩
 have arV : (if bj = true then yn E (c0 + rk E ops.toList j) oj.dst oj.op (aQ st.f) (dJ md ops.toList j st.wl st.rows) vj uj else vj = .eA [] ∧ uj = none) ∧
   (bj = true → ∀ id ∈ gM oj.op (aQ st.f), ∃ r, dJ md ops.toList j (app i oi bi vi ui st).wl (app i oi bi vi ui st).rows id = some r) ∧ (∀ id r, uj = some (id, r) → bj = true ∧ ((cT E oj.op = true ∧ id = oj.dst.getD 0) ∨ id ∈ gM oj.op (aQ st.f))) := by
  by_cases hb : bj = true
  ·rw [if_pos hb] at hyj ⊢
   have ack := (G3 ej).1 hyj
   obtain ⟨g1, g2, g3⟩ := PK (hle _) ack
   exact ⟨g1, fun _ => g2, fun id r hu => ⟨hb, g3 id r hu⟩⟩
  ·rw [if_neg hb] at hyj ⊢
   exact ⟨hyj, fun h => absurd h hb, fun id r hu => by rw [hyj.2] at hu; cases hu⟩
 obtain ⟨arW, ack, arX⟩ := arV
 have arY : SO md ops.toList j uj st.bK := EK.2 fun id r hu k hk => hoj id r hu k (.inr hk)
 have hfi : ∀ id r, uj = some (id, r) → ¬ (bi = true ∧ id ∈ gM oi.op (aQ st.f)) := by
  intro id r hu hh
  have := hoj id r hu i (.inl ⟨hh.1, rfl, hh.2⟩)
  rw [hdj] at this; cases this
 have hui : ∀ id r, ui = some (id, r) → bi = true ∧ ((cT E oi.op = true ∧ id = oi.dst.getD 0) ∨ id ∈ gM oi.op (aQ st.f)) := by
  intro id r hu
  by_cases hb : bi = true
  ·rw [if_pos hb] at SP
   exact ⟨hb, (PK (rows' := dJ md ops.toList i st.wl st.rows) (fun id _ r hr => hr) SP).2.2 id r hu⟩
  ·rw [if_neg hb] at SP
   rw [SP.2] at hu; cases hu
 have pW : ∀ id r r', ui = some (id, r) → uj = some (id, r') → False := by
  intro id r r' hu1 hu2
  obtain ⟨hb, hh⟩ := arX id r' hu2
  rcases hh with hh | hh
  ·obtain ⟨EG, hh1⟩ := hui id r hu1
   rcases hh1 with hh1 | hh1
   ·obtain ⟨d, hd⟩ := Option.isSome_iff_exists.1 (hds hh1.1)
    have e1 : id = d := by rw [hh1.2, hd]; rfl
    cases ahf : oj.dst with
    | none => exact absurd ahf (fun he => by have := arT hh.1; rw [he] at this; cases this)
    | some d' =>
     have e2 : id = d' := by rw [hh.2, ahf]; rfl
     exact h2 d hd (by rw [ahf, ← e2, e1])
   ·exact hfi id r' hu2 ⟨EG, hh1⟩
  ·obtain ⟨r'', arZ⟩ := ack hb id hh
   exact hnw id r'' arZ r hu1
 have ar0 : bi = true → iY (gM oi.op (aQ st.f)) (dJ md ops.toList i st.wl st.rows) (dJ md ops.toList i (app j oj bj vj uj st).wl (app j oj bj vj uj st).rows) := by
  intro hb id gI r hr
  obtain ⟨hw, jI⟩ := jN.1 hr
  have hn : ∀ r', uj ≠ some (id, r') := fun r' hu => hfi id r' hu ⟨hb, gI⟩
  refine jN.2 ⟨fun k hk => ?_, ?_⟩
  ·rcases nM.1 hk with ⟨_, r', hu⟩ | hk
   ·exact absurd hu (hn r')
   ·exact hw k hk
  ·simp only [app]; rw [yV hn]; exact jI
 refine ⟨bj, vj, uj, ⟨arU, arW⟩, arY, ⟨(PM h3).2 hgi, ?_⟩, ?_, ?_⟩
 ·by_cases hb : bi = true
  ·rw [if_pos hb] at SP ⊢
   refine (G3 ei).2 ?_
   exact (PK (ar0 hb) SP).1
  ·rw [if_neg hb] at SP ⊢; exact SP
 ·-- i's own row has not axn apU
  rw [EK]
  rintro id r hu k (⟨hb, rfl, hh⟩ | hh)
  ·obtain ⟨r', jI⟩ := ack hb id hh
   exact absurd hu (hnw id r' jI r)
  ·exact ho id r hu k hh
 ·have : app i oi bi vi ui (app j oj bj vj uj st) = app j oj bj vj uj (app i oi bi vi ui st) := by
   simp only [app, ST.mk.injEq]
   refine ⟨put_comm fun d hd => fun WU => (h2 d) (by first | exact hd | exact WU) (by first | exact WU | exact hd), ?_, ?_, ?_⟩
   ·cases ui with
    | none => rfl
    | some x =>
     cases uj with
     | none => rfl
     | some y =>
      obtain ⟨id, r⟩ := x
      obtain ⟨iS, r'⟩ := y
      have : id ≠ iS := fun e => pW id r r' rfl (by rw [e])
      funext k
      simp only [fC, dC]
      split <;> split <;> simp_all
   ·funext k id
    have e1 : gM oi.op (aQ (put st.f oj.dst vj)) = gM oi.op (aQ st.f) := yU ei
    have e2 : gM oj.op (aQ (put st.f oi.dst vi)) = gM oj.op (aQ st.f) := yU ej
    rw [e1, e2]
    apply propext
    constructor
    ·rintro (h | h | h)
     ·exact .inr (.inl h)
     ·exact .inl h
     ·exact .inr (.inr h)
    ·rintro (h | h | h)
     ·exact .inr (.inl h)
     ·exact .inl h
     ·exact .inr (.inr h)
   ·funext k id
    apply propext
    rw [nM, nM, nM, nM]
    constructor
    ·rintro (h | h | h)
     ·exact .inr (.inl h)
     ·exact .inl h
     ·exact .inr (.inr h)
    ·rintro (h | h | h)
     ·exact .inr (.inl h)
     ·exact .inl h
     ·exact .inr (.inr h)
  rw [this]; exact hK
theorem G5 {j k : Nat} : SN md ops.toList j k = true ↔ ∃ oj, ops[j]? = some oj ∧ ∃ e ∈ oj.after, Region.binds md e = true ∧ e.on = k := by
 unfold SN
 cases h : ops[j]? with
 | none => simp [show ops.toList[j]? = none by simpa using h]
 | some oj =>
  rw [show ops.toList[j]? = some oj by simpa using h]
  simp only [List.any_eq_true, Bool.and_eq_true, beq_iff_eq, Option.some.injEq]
  constructor
  ·rintro ⟨e, he, h1, h2⟩; exact ⟨oj, rfl, e, by simpa using he, h1, h2⟩
  ·rintro ⟨_, rfl, e, he, h1, h2⟩; exact ⟨e, by simpa using he, h1, h2⟩
theorem acm {n j i : Nat} {oj : Oper} {aY : Array Bool} (hj : ops[j]? = some oj) (inv : HeadInv md ops n aY) (hr : ∀ e ∈ oj.after, Region.binds md e = true → aY.getD e.on false = true) (KX : aY.getD i false = false) : nK md ops.toList j i = false := by
 have one : ∀ k, SN md ops.toList j k = true → aY.getD k false = true := fun k hk => by
  obtain ⟨o, ho, e, he, h1, rfl⟩ := G5.1 hk
  rw [hj] at ho; cases ho
  exact hr e he h1
 cases hd : nK md ops.toList j i with
 | false => rfl
 | true =>
  exfalso
  unfold nK at hd
  rcases Bool.or_eq_true_iff.1 hd with h | h
  ·rw [one i h] at KX; cases KX
  ·obtain ⟨k, _, hk⟩ := List.any_eq_true.1 h
   obtain ⟨h1, h2⟩ := Bool.and_eq_true_iff.1 hk
   obtain ⟨o, ho, e, he, h3, rfl⟩ := G5.1 h2
   rw [inv.closed k o ho (one k h1) e he h3] at KX; cases KX
end
section
variable {E : Env} {ops : Array Oper} {md : Region.Mode}
def G6 (E : Env) (md : Region.Mode) (ops : Array Oper) (c0 n : Nat) (L : Array Bool → ST → Prop) : Nat → Array Bool → ST → Prop
 | 0, aY, st => L aY st
 | f + 1, aY, st => Region.ready md ops aY ≠ [] ∧ ∀ i ∈ Region.ready md ops aY, i < n ∧ WR E md ops c0 i (G6 E md ops c0 n L f (aY.setIfInBounds i true)) st
theorem G7 {c0 n i : Nat} {oi : Oper} {b : Bool} {v : PV} {u : Option (Nat × Row)} {L : Array Bool → ST → Prop} (hi : ops[i]? = some oi) (nI : ∀ i oi, i < n → ops[i]? = some oi → cT E oi.op = true → oi.dst.isSome = true)
  (yW : ∀ aY, HeadInv md ops n aY → ∀ i, i < n → aY.getD i true = false → ∀ t, n ≤ t → t ∉ Region.ready md ops aY) (hin : i < n)
  (amj : ∀ aY st, L aY st → ∀ j ∈ Region.ready md ops aY, n ≤ j) :
  ∀ (f : Nat) (aY : Array Bool) (st : ST), HeadInv md ops n aY →
   (∀ j oj, ops[j]? = some oj → j ≠ i → aY.getD j true = false → (∀ e ∈ oj.after, Region.binds md e = true → e.on ≠ i) → oi.apart ops oj = true) →
   i ∈ Region.ready md ops aY → YG E md ops c0 i oi b v u st → SO md ops.toList i u st.bK →
   G6 E md ops c0 n L f (aY.setIfInBounds i true) (app i oi b v u st) → G6 E md ops c0 n L (f + 1) aY st := by
 intro f
 induction f with
 | zero =>
  intro aY st inv _ hr hy ho H
  have KX := (mem_ready.1 hr).1
  refine ⟨fun h => (by rw [h] at hr; cases hr), fun j hj => ?_⟩
  have hjn : j < n := by
   rcases Nat.lt_or_ge j n with h | h
   ·exact h
   ·exact absurd hj (yW aY inv i hin KX j h)
  refine ⟨hjn, ?_⟩
  by_cases hji : j = i
  ·subst hji; unfold WR; simp only [hi]; exact ⟨b, v, u, hy, ho, H⟩
  ·have := amj _ _ H j (ready_mono hj hji)
   omega
 | succ f ih =>
  intro aY st inv ae4 hr hy ho H
  have KX := (mem_ready.1 hr).1
  refine ⟨fun h => (by rw [h] at hr; cases hr), fun j hj => ?_⟩
  have hjn : j < n := by
   rcases Nat.lt_or_ge j n with h | h
   ·exact h
   ·exact absurd hj (yW aY inv i hin KX j h)
  refine ⟨hjn, ?_⟩
  by_cases hji : j = i
  ·subst hji; unfold WR; simp only [hi]; exact ⟨b, v, u, hy, ho, H⟩
  ·have h1 := (H.2 j (ready_mono hj hji)).2
   obtain ⟨aml, oj, hoj, rP⟩ := mem_ready.1 hj
   have ahg : ∀ e ∈ oj.after, Region.binds md e = true → e.on ≠ i := fun e he hb heq => by
    have h1 := rP e he hb
    rw [heq, getD_both KX] at h1
    cases h1
   have h2 := acj hoj (ae4 j oj hoj hji aml ahg) (nI i oi hin hi) (nI j oj hjn hoj) (acm hoj inv rP (getD_both KX)) hy ho h1
   have ahh : ∀ k ok, ops[k]? = some ok → k ≠ i → (aY.setIfInBounds j true).getD k true = false →
     (∀ e ∈ ok.after, Region.binds md e = true → e.on ≠ i) → oi.apart ops ok = true := fun k ok hk hki amm hno => by
    refine ae4 k ok hk hki ?_ hno
    by_cases hjk : j = k
    ·subst hjk; exact aml
    ·rw [getD_set_ne true hjk] at amm; exact amm
   refine WS (fun PN h3 => ih (aY.setIfInBounds j true) PN (inv.set hj hjn) ahh (ready_mono hr (Ne.symm hji)) h3.1 h3.2.1 ?_) h2
   rw [Array.setIfInBounds_comm _ _ hji]
   exact h3.2.2
def ahk (E : Env) (md : Region.Mode) (ops : Array Oper) (c0 : Nat) (Lq : ST → Prop) : Nat → List Oper → ST → Prop
 | _, [], st => Lq st
 | k, o :: os, st => ∃ b v u, YG E md ops c0 k o b v u st ∧ SO md ops.toList k u st.bK ∧ ahk E md ops c0 Lq (k + 1) os (app k o b v u st)
theorem pY {c0 n g : Nat} {Lq : ST → Prop} (nI : ∀ i oi, i < n → ops[i]? = some oi → cT E oi.op = true → oi.dst.isSome = true) (yW : ∀ aY, HeadInv md ops n aY → ∀ i, i < n → aY.getD i true = false → ∀ t, n ≤ t → t ∉ Region.ready md ops aY) :
  ∀ (l : List Oper) (k : Nat) (aY : Array Bool) (st : ST), (∀ j, j < l.length → l[j]? = ops[k + j]?) → k + l.length = n → HeadInv md ops n aY →
  Region.lexHead md ops g l.length k aY = true → ahk E md ops c0 Lq k l st →
  G6 E md ops c0 n (fun PO PN => Region.seqB md ops g n PO = true ∧ Lq PN) l.length aY st
 | [], k, aY, st, _, hk, _, hB, h => by
  have : k = n := by simpa using hk
  subst this
  exact ⟨by simpa [Region.lexHead] using hB, h⟩
 | o :: l, k, aY, st, hl, hk, inv, hB, h => by
  have h0 : ops[k]? = some o := by simpa using (hl 0 (by simp)).symm
  simp only [List.length_cons, Region.lexHead, Bool.and_eq_true] at hB
  obtain ⟨⟨hr, hf⟩, hB'⟩ := hB
  have hkn : k < n := by simp only [List.length_cons] at hk; omega
  have jI : k ∈ Region.ready md ops aY := by simpa using hr
  obtain ⟨b, v, u, hy, ho, hK⟩ := h
  exact G7 h0 nI yW hkn (fun PO PN hL => seqB_ready hL.1) l.length aY st inv (Region.free_spec h0 hf) jI hy ho
   (pY nI yW l (k + 1) _ _ (fun j hj => by have := hl (j + 1) (by simp; omega); simpa [Nat.add_assoc, Nat.add_comm 1 j] using this) (by simp only [List.length_cons] at hk; omega) (inv.set jI hkn) hB' hK)
variable {w0 : World} {S0 : c9} {m : Nat} {G : Gs}
theorem LW {o : Oper} {a : Act} {w : World} {f : Nat → PV} {rows : Rows} {U : Nat → Prop} {c0 : Nat} {v : PV} {u : Option (Nat × Row)} (PG : ¬ U c0) {g : FuncId} {aAz : Array Operand} {ts : Array TypeId} (ho : o.op = .call { callee := .value (.func g), args := aAz, argTypes := ts })
  (hy : ae1 E g (aAz.toList.map fun x => aQ f x) c0 (o.dst.getD 0) v u) (hR : nJ w0 S0 m G U f rows a w) (hd : ∀ t, o.dst = some t → t < m)
  {K' : Act → World → Prop} {Q : Exit → Act → World → Prop} (hK : ∀ a' w', nJ w0 S0 m G (fun v => v = c0 ∨ U v) (put f o.dst v) (fC rows u) a' w' → K' a' w') : o.wp E.P a w K' Q := by
 obtain ⟨⟨c, rfl, hr, eY, hI, hf, hG⟩, hn, eI⟩ := hR
 have hρ := kI hf
 have hfu : ¬ c.used c0 := fun hu => PG (eY _ hu)
 obtain ⟨qZ, e, n, els, ⟨⟨fn, b, h1, h2, h3⟩, LQ⟩, rfl, rfl⟩ := hy
 obtain ⟨dst, op, type, pos, after, guard⟩ := o
 simp only at ho hd hK
 subst ho
 have fM : a7 (aJ c) (aAz.toList.map fun x => aQ f x) (aAz.map a.eval).toList := by
  refine a7.cV (by simp) fun k p u hp hu => ?_
  simp at hp hu
  obtain ⟨x, hx, rfl⟩ := hp
  obtain ⟨y, hy, rfl⟩ := hu
  rw [hx] at hy; cases hy
  exact hρ x
 have fB : bI c.S c.w (aAz.toList.map fun x => aQ f x) (aAz.map a.eval).toList := cC.2 (a7.cV fM.length fun k p u hp hu => by
  obtain ⟨u', q1, q2⟩ := fM.get hp
  rw [hu] at q1; cases q1
  exact q2.rep (List.all_eq_true.1 qZ p (List.mem_of_getElem? hp)))
 have oX := LQ c.w c.S _ (fun b o hb => hI.lt hb) fB
 simp only [Array.toArray_toList] at oX
 have hfo := hρ (.func g)
 simp only [aQ, aJ, aP, cJ] at hfo
 obtain ⟨cs, hfv, GM⟩ := hfo
 simp only [bI] at GM
 subst GM
 unfold Oper.wp
 have iX : (execOp a.eval { dst := dst, op := .call { callee := .value (.func g), args := aAz, argTypes := ts }, type := type, pos := pos, after := after, guard := guard }).run E.P c.w = .ok (.enter g (aAz.map a.eval)) c.w := by
  simp only [execOp, resolve, hfv, Deferred.ofValue, Sem.run_bind, Sem.run_pure, Result.andThen_ok, invoke]
  simpa using kV h1 h2 h3 (aAz.map a.eval) c.w
 rw [iX]
 refine oX.mono ?_
 rintro x w' ⟨v', xs, S', rfl, hb, g1, g2, g3, g4, g5, g6, g7, g8⟩
 obtain ⟨hI2, hA2⟩ := hI.grow hb g1 g2
 obtain ⟨hI3, hA3⟩ := hI2.set (w' := w') (ob := v'.ownBlock) (id := dst.getD 0) (r' := ⟨c0, e, n, els⟩) (v' := v') (xs := xs) (World.grownBy.refl _ _)
  (fun g hg => by
   have hge := (g3.lt g hg).1
   refine ⟨by have := hI.below.size; omega, fun o => g8 g o hg, fun iS r hr _ wZ => ?_⟩
   obtain ⟨⟨ys, q1, _, _⟩, _⟩ := hI.row iS r hr
   have := (q1.lt g wZ).2
   omega) ⟨g3.1, g3.2.imp id fun ⟨g, cap, cur, q1, q2, q3⟩ => ⟨g, cap, cur, q1, Nat.le_trans hI.below.size q2, q3⟩⟩ (g4.mono fun _ _ h => aP.iW h) g5 g6 g7 (fun g hg => .inl hg) hfu
 refine hK _ _ ?_
 have hf2 : ∀ s, aJ { c with S := S', w := w' } (f s) (a.tmps.getD s undef) := fun s => aJ.rH hA2 _ _ (hf s)
 have hG2 : ∀ p ∈ G, aJ { c with S := S', w := w' } p.1 p.2 := fun p hp => aJ.rH hA2 _ _ (hG p hp)
 refine mR hf2 hG2 hn eI hA3 hI3 ?_ hd rfl (by simp [fC, hr]) (fun v hv => hv.imp (fun h => h) (eY v))
 rcases g3.2 with ⟨rfl, h8⟩ | ⟨g, jK, cur, rfl, _⟩
 ·have : els.length = 0 := h8
  rw [this]
  exact j0 (r := ⟨c0, e, n, els⟩) (A := none) (cap := 0) (by simp [dC]) (by simpa using h8) (Or.inl rfl) (by simp [dC])
 ·exact j0 (r := ⟨c0, e, n, els⟩) (by simp [dC]) rfl (Or.inl rfl) (by simp [dC])
theorem WV {o : Oper} {a : Act} {w : World} {f : Nat → PV} {rows : Rows} {U : Nat → Prop} {c0 : Nat} {v : PV} {u : Option (Nat × Row)} (PG : ¬ U c0) (hn : cT E o.op = true) (hy : yn E c0 o.dst o.op (aQ f) rows v u) (hR : nJ w0 S0 m G U f rows a w) (hd : ∀ t, o.dst = some t → t < m)
  {K' : Act → World → Prop} {Q : Exit → Act → World → Prop} (hK : ∀ a' w', nJ w0 S0 m G (fun v => v = c0 ∨ U v) (put f o.dst v) (fC rows u) a' w' → K' a' w') : o.wp E.P a w K' Q := by
 by_cases oX : ∃ g aAz ts, o.op = .call { callee := .value (.func g), args := aAz, argTypes := ts } ∧ E.writes g = true
 ·obtain ⟨g, aAz, ts, ho, hw⟩ := oX
  rw [ho] at hy
  simp only [yn] at hy
  rw [if_pos hw] at hy
  exact LW PG ho hy hR hd hK
 refine sS (ver := c0) PG (K := fun _ f' rows' => f' = put f o.dst v ∧ rows' = fC rows u) ?_ hR hd (fun i f' rows' a' w' h j1 => by
  obtain ⟨rfl, rfl⟩ := h
  exact hK a' w' (j1.mono fun v hv => hv.imp (fun h => h.2) fun h => h))
 obtain ⟨dst, op, type, pos, after, guard⟩ := o
 simp only at hn hy oX ⊢
 refine lR hn ?_ ?_ ?_ ?_ ?_
 ·rintro t rfl
  simp only [yn] at hy
  obtain ⟨h2, rfl, rfl⟩ := hy
  exact ⟨h2, rfl, rfl⟩
 ·rintro t x rfl
  simp only [yn] at hy
  obtain ⟨h2, l, h3, h4, h5, rfl, rfl⟩ := hy
  exact ⟨h2, l, h3, fun q hq => EJ (fun id _ r hr => by cases hr) (h4 q hq), h5, rfl, rfl⟩
 ·rintro t l cc rfl
  simp only [yn] at hy
  simp only [mI]
  split at hy
  ·rename_i e n b z k1 x k2 y hE hl hc
   obtain ⟨g1, g2, g3, g4, rfl, rfl⟩ := hy
   try rw [hE, hl, hc]
   exact ⟨g1, g2, g3, g4, rfl, rfl⟩
  ·exact hy.elim
 ·rintro x y t t2 rfl
  simp only [yn] at hy
  obtain ⟨h2, hy⟩ := hy
  simp only [mI]
  refine ⟨h2, ?_⟩
  unfold oY at hy
  unfold mS
  split at hy
  ·rename_i e n b z hE
   obtain ⟨l, g1, g2, g3⟩ := hy
   rw [hE]
   refine ⟨l, g1, g2, ?_⟩
   split at g3
   ·rename_i hx
    obtain ⟨q1, q2, rfl, rfl⟩ := g3
    rw [hx]
    exact ⟨q1, q2, rfl, rfl⟩
   ·rename_i id ver off len hx
    obtain ⟨r, q1, q2, q3, q4, q5, q6, q7, q8, rfl, rfl⟩ := g3
    rw [hx]
    exact ⟨r, q1, q2, q3, q4, q5, q6, q7, q8, rfl, rfl⟩
   ·exact g3.elim
  ·exact hy.elim
 ·rintro g aAz ts rfl hw
  exact absurd ⟨g, aAz, ts, rfl, hw⟩ oX
theorem SR {c0 i : Nat} {st : ST} {K : ST → Prop} {U : Nat → Prop} (PG : ∀ o, ops[i]? = some o → cT E o.op = true → ¬ U (c0 + rk E ops.toList i)) (h : WR E md ops c0 i K st) {a : Act} {w : World} (hR : nJ w0 S0 m G U st.f st.rows a w) (hd : ∀ o, o ∈ ops → ∀ t, o.dst = some t → t < m)
  {K' : Act → World → Prop} {Q : Exit → Act → World → Prop} (hK : ∀ PN a' w', K PN → nJ w0 S0 m G (fun v => (v = c0 + rk E ops.toList i ∧ ∃ o, ops[i]? = some o ∧ cT E o.op = true) ∨ U v) PN.f PN.rows a' w' → K' a' w') : wpOp E.P ops Q i K' a w := by
 unfold WR at h
 unfold wpOp
 split at h
 ·rename_i hi; simp only [hi]; exact hK _ _ _ h (hR.mono fun v hv => .inr hv)
 ·rename_i o hi
  simp only [hi]
  obtain ⟨b, v, u, ⟨hg, hy⟩, ho, hk⟩ := h
  have j1 := hR
  obtain ⟨⟨c, rfl, hr, eY, hI, hf, hG⟩, hn, eI⟩ := hR
  have hdo := hd o (Array.mem_of_getElem? hi)
  have ae5 : Region.wanted o (yielded ops a.tmps) = b := by
   unfold gOK at hg
   unfold Region.wanted
   cases hgd : o.guard with
   | none => rw [hgd] at hg; simp only at hg ⊢; exact hg.symm
   | some x =>
    obtain ⟨j, want⟩ := x
    rw [hgd] at hg
    simp only at hg ⊢
    obtain ⟨d, h1, h2⟩ := hg
    have hx := hf d
    rcases h2 with ⟨h2, h3⟩ | ⟨h2 | h2, h3⟩
    ·rw [h2] at hx
     rw [gE h1 hx, h3]
     cases want <;> rfl
    ·rw [h2] at hx
     rw [gE h1 hx, h3]
     cases want <;> rfl
    ·rw [h2] at hx
     rw [rO h1 hx, h3]
     rfl
  by_cases hb : b = true
  ·subst hb
   rw [if_pos rfl] at hy
   rw [ae5, if_pos rfl]
   left
   cases nI : cT E o.op with
   | true =>
    refine WV (PG o hi nI) nI (PK (fun id _ r jI => (jN.1 jI).2) hy).1 j1 hdo fun a' w' hR2 => hK _ _ _ hk ?_
    exact hR2.mono fun v hv => hv.imp (fun h => ⟨h, o, by first | exact hi | rfl, nI⟩) fun h => h
   | false =>
    rw [yR nI] at hy
    have BF : ys E o.op (aQ st.f) c.rows v u := by
     rw [hr]
     exact (ae0 (fun id _ r jI => (jN.1 jI).2) hy).1
    refine G2 hI hf BF fun v' c' h1 h2 h3 h4 h5 => hK _ _ _ hk ?_
    refine mR hf hG hn eI h3 h4 h5 hdo rfl ?_ ?_
    ·simp only [app]
     rw [h1, hr]
    ·rw [h2]
     exact fun v hv => .inr (eY v hv)
  ·rw [if_neg hb] at hy
   obtain ⟨rfl, rfl⟩ := hy
   rw [ae5, if_neg hb]
   refine hK _ _ _ hk ?_
   have wZ : b = false := by simpa using hb
   subst wZ
   exact mR hf hG hn eI (rG.refl c) hI LV hdo rfl (by rw [hr]; rfl) (fun v hv => .inr (eY v hv))
def Ul (E : Env) (ops : Array Oper) (c0 n : Nat) (aY : Array Bool) : Nat → Prop := fun v => v < c0 ∨ ∃ k o, k < n ∧ ops[k]? = some o ∧ cT E o.op = true ∧ v = c0 + rk E ops.toList k ∧ aY.getD k false = true
theorem LX {c0 n v : Nat} {aY : Array Bool} (h : Ul E ops c0 n aY v) : v < c0 + rk E ops.toList n := by
 rcases h with h | ⟨k, o, hk, ho, hn, rfl, _⟩
 ·omega
 ·have := WN (ops := ops.toList) (by simpa using ho) hn hk
  omega
theorem jX {c0 n g : Nat} {L : Array Bool → ST → Prop} {Q : Exit → Act → World → Prop} (hd : ∀ o, o ∈ ops → ∀ t, o.dst = some t → t < m)
  (hL : ∀ aY (st : ST) a w, L aY st → nJ w0 S0 m G (Ul E ops c0 n aY) st.f st.rows a w → wpAny E.P md ops Q g aY a w) :
  ∀ (f : Nat) (aY : Array Bool) (st : ST) (a : Act) (w : World), n ≤ aY.size → G6 E md ops c0 n L f aY st → nJ w0 S0 m G (Ul E ops c0 n aY) st.f st.rows a w → wpAny E.P md ops Q (f + g) aY a w
 | 0, aY, st, a, w, _, h, hR => by rw [Nat.zero_add]; exact hL _ _ _ _ h hR
 | f + 1, aY, st, a, w, mF, h, hR => by
  rw [show f + 1 + g = (f + g) + 1 by omega]
  refine ⟨fun h0 => absurd h0 h.1, fun i hi => ?_⟩
  have KX := (mem_ready.1 hi).1
  obtain ⟨hin, hq⟩ := h.2 i hi
  refine SR (fun o ho hn hU => ?_) hq hR hd fun PN a' w' h' j1 => jX hd hL f _ PN a' w' (by simpa using mF) h' (j1.mono fun v hv => ?_)
  ·rcases hU with hU | ⟨k, o', hk, ho', vT, he, hl⟩
   ·omega
   ·have := ahb (ops := ops.toList) (by simpa using ho) hn (by simpa using ho') vT (by omega)
    subst this
    rw [getD_both KX] at hl; cases hl
  ·rcases hv with ⟨rfl, o, ho, hn⟩ | hv
   ·exact .inr ⟨i, o, hin, ho, hn, rfl, by simp [show i < aY.size by omega]⟩
   ·rcases hv with hv | ⟨k, o, hk, ho, hn, he, hl⟩
    ·exact .inl hv
    ·refine .inr ⟨k, o, hk, ho, hn, he, ?_⟩
     by_cases hki : i = k
     ·subst hki; simp [show i < aY.size by omega]
     ·simpa [Array.getElem?_setIfInBounds_ne hki] using hl
end
def aL (E : Env) (ops : List Oper) : List Oper → (PS → Prop) → PS → Prop
 | [], K, σ => K σ
 | o :: os, K, σ =>
  match o.guard with
  | none => dQ E o (aL E ops os K) σ
  | some (j, want) =>
   match (ops[j]?).bind (·.dst) with
   | none => False
   | some d => (σ.f d = .bool want ∧ dQ E o (aL E ops os K) σ) ∨ ((σ.f d = .bool (!want) ∨ σ.f d = .eA []) ∧ aL E ops os K (σ.put o.dst (.eA [])))
def aN (E : Env) (ops : List Oper) (clk : Nat) : Nat → List Oper → (PS → Prop) → ST → Prop
 | _, [], K, st => K ⟨st.f, st.rows, clk⟩
 | k, o :: os, K, st =>
  match o.guard with
  | none => ∃ v u, yn E clk o.dst o.op (aQ st.f) (dJ .any ops k st.wl st.rows) v u ∧ SO .any ops k u st.bK ∧ aN E ops (gN E o.op clk) (k + 1) os K (app k o true v u st)
  | some (j, want) =>
   match (ops[j]?).bind (·.dst) with
   | none => False
   | some d => (st.f d = .bool want ∧ ∃ v u, yn E clk o.dst o.op (aQ st.f) (dJ .any ops k st.wl st.rows) v u ∧ SO .any ops k u st.bK ∧ aN E ops (gN E o.op clk) (k + 1) os K (app k o true v u st)) ∨ ((st.f d = .bool (!want) ∨ st.f d = .eA []) ∧ aN E ops clk (k + 1) os K (app k o false (.eA []) none st))
def fN (E : Env) (tl : Nat) (ops : List Oper) (K : PS → Prop) (σ : PS) : Prop :=
 if tl = 0 then aN E ops σ.clock 0 ops K ⟨σ.f, σ.rows, fun _ _ => False, fun _ _ => False⟩
 else aN E ops σ.clock 0 (ops.take (ops.length - tl)) (aL E ops (ops.drop (ops.length - tl)) K) ⟨σ.f, σ.rows, fun _ _ => False, fun _ _ => False⟩
inductive PX where
 | normal
 | exit (id : Nat)
 | ret
def BI (K : PS → Prop) (Q : PX → PS → Prop) : PX → PS → Prop
 | .normal, σ => K σ
 | .exit id, σ => Q (.exit id) σ
 | .ret, σ => Q .ret σ
def BJ (id : Nat) (Q : PX → PS → Prop) : PX → PS → Prop
 | .normal, σ => Q .normal σ
 | .exit j, σ => if j = id then Q .normal σ else Q (.exit j) σ
 | .ret, σ => Q .ret σ
def oZ (E : Env) (n tl : Nat) (ops : Array Oper) (draw : Bool) : Bool :=
 (ops.all fun o => match o.dst with | some d => decide (d < n) | none => true) &&
 (!draw || (rN E (if tl = 0 then ops.toList else ops.toList.take (ops.size - tl)) && (if tl = 0 then Region.noSelect ops && Region.lexHead .any ops 0 ops.size 0 (Array.replicate ops.size false) else decide (tl ≤ ops.size) && Region.lexTailB .any ops (ops.size - tl))))
def dY (E : Env) (n : Nat) (tl : Nat → Nat) : Code → Bool
 | .region id ops draw => oZ E n (tl id) ops draw
 | .seq a b => dY E n tl a && dY E n tl b
 | .cond _ t e => dY E n tl t && dY E n tl e
 | .block _ c => dY E n tl c
 | .loop c => dY E n tl c
 | _ => true
section
variable {E : Env} {w0 : World} {S0 : c9} {n : Nat} {G : Gs}
theorem fT {ops : Array Oper} {K : PS → Prop} {Q : Exit → Act → World → Prop} (hK : ∀ σ' a' w', K σ' → Rel w0 S0 n G σ' a' w' → Q .normal a' w') :
  ∀ (l : List Oper) (σ : PS) (a : Act) (w : World), (∀ o ∈ l, ∀ t, o.dst = some t → t < n) → aL E ops.toList l K σ → Rel w0 S0 n G σ a w → wpList E.P ops Q l a w
 | [], σ, a, w, _, h, hR => hK _ _ _ h hR
 | o :: os, σ, a, w, hd, h, hR => by
  have hdo := hd o (by simp)
  have hds : ∀ o ∈ os, ∀ t, o.dst = some t → t < n := fun o ho => hd o (by simp [ho])
  have wanted : ∀ {σ}, dQ E o (aL E ops.toList os K) σ → Rel w0 S0 n G σ a w → o.wp E.P a w (wpList E.P ops Q os) Q := fun hp hR =>
   vU hp hR hdo fun σ' a' w' hk j1 => fT hK os σ' a' w' hds hk j1
  unfold wpList
  simp only [aL] at h
  split at h
  ·rename_i hg
   rw [if_pos (by simp [Region.wanted, hg])]
   exact .inl (wanted h hR)
  ·rename_i j want hg
   split at h
   ·exact h.elim
   ·rename_i d SS
    have hd3 : (ops[j]?).bind (·.dst) = some d := by simpa using SS
    have skip : yielded ops a.tmps j ≠ some want → aL E ops.toList os K (σ.put o.dst (.eA [])) → (if Region.wanted o (yielded ops a.tmps) = true then o.wp E.P a w (wpList E.P ops Q os) Q ∨ (o.asks E.P a w ∧ LetsOut Q) else wpList E.P ops Q os (a.put o.dst undef) w) := by
     intro hy h2
     rw [if_neg (by simpa [Region.wanted, hg] using hy)]
     refine fT hK os _ _ w hds h2 ?_
     obtain ⟨⟨c, rfl, hr, eY, hI, hf, hG⟩, hn, eI⟩ := hR
     exact lP hf hG hn eI (rG.refl c) hI LV hdo rfl (by simp [PS.put, hr]) eY
    obtain ⟨c, _, _, _, _, hf, _⟩ := hR.ex
    have hx := hf d
    rcases h with ⟨h1, h2⟩ | ⟨h1 | h1, h2⟩
    ·rw [h1] at hx
     rw [if_pos (by simp [Region.wanted, hg, gE hd3 hx])]
     exact .inl (wanted h2 hR)
    ·rw [h1] at hx
     exact skip (by rw [gE hd3 hx]; cases want <;> simp) h2
    ·rw [h1] at hx
     exact skip (by rw [rO hd3 hx]; simp) h2
theorem mT {ops : Array Oper} {c0 : Nat} {K : PS → Prop} : ∀ (l : List Oper) (k clk : Nat) (st : ST), (∀ j, j < l.length → l[j]? = ops[k + j]?) → rN E l = true → clk = c0 + rk E ops.toList k → aN E ops.toList clk k l K st → ahk E .any ops c0 (fun st => K ⟨st.f, st.rows, c0 + rk E ops.toList (k + l.length)⟩) k l st
 | [], k, clk, st, _, _, hc, h => by subst hc; exact h
 | o :: os, k, clk, st, hl, G8, hc, h => by
  have ahm : rN E os = true := by simp only [rN, List.all_cons, Bool.and_eq_true] at G8 ⊢; exact G8.2
  have ar3 : o.guard ≠ none → cT E o.op = false := fun hg => by
   simp only [rN, List.all_cons, Bool.and_eq_true] at G8
   cases hn : cT E o.op with
   | false => rfl
   | true => have := G8.1; rw [hn] at this; simp at this; exact absurd this.2 hg
  have h0 : ops[k]? = some o := by simpa using (hl 0 (by simp)).symm
  have uE : gN E o.op clk = c0 + rk E ops.toList (k + 1) := by rw [hc]; exact aci (by simpa using h0)
  have hl1 : ∀ j, j < os.length → os[j]? = ops[k + 1 + j]? := fun j hj => by have := hl (j + 1) (by simp; omega); simpa [Nat.add_assoc, Nat.add_comm 1 j] using this
  have e1 : k + (o :: os).length = k + 1 + os.length := by simp only [List.length_cons]; omega
  rw [e1]
  simp only [aN] at h
  split at h
  ·rename_i hg
   obtain ⟨v, u, h1, h2, h3⟩ := h
   exact ⟨true, v, u, ⟨by simp [gOK, hg], by rw [if_pos rfl, ← hc]; exact h1⟩, h2, mT os _ _ _ hl1 ahm uE h3⟩
  ·rename_i j want hg
   split at h
   ·exact h.elim
   ·rename_i d SS
    have hd3 : (ops[j]?).bind (·.dst) = some d := by simpa using SS
    rcases h with ⟨h1, v, u, q1, q2, q3⟩ | ⟨h1, h2⟩
    ·exact ⟨true, v, u, ⟨by simp only [gOK, hg]; exact ⟨d, hd3, .inl ⟨h1, trivial⟩⟩, by rw [if_pos rfl, ← hc]; exact q1⟩, q2, mT os _ _ _ hl1 ahm uE q3⟩
    ·exact ⟨false, .eA [], none, ⟨by simp only [gOK, hg]; exact ⟨d, hd3, .inr ⟨h1, trivial⟩⟩, by simp⟩, trivial, mT os _ _ _ hl1 ahm (by rw [← uE, yT (ar3 (by rw [hg]; simp))]) h2⟩
theorem Rel.drew {σ : PS} {a : Act} {w : World} (h : Rel w0 S0 n G σ a w) : Rel w0 S0 n G σ a { w with drawn := w.drawn + 1 } := by
 obtain ⟨⟨c, rfl, hr, eY, hI, hf, hG⟩, hn, eI⟩ := h
 obtain ⟨uF, hA⟩ := hI.grow (w' := { c.w with drawn := c.w.drawn + 1 }) (S' := c.S) ⟨rfl, rfl, rfl, Nat.le_refl _, fun _ _ => rfl⟩ (fun _ _ h => h) (fun _ _ h => .inl h)
 exact ⟨⟨{ c with w := { c.w with drawn := c.w.drawn + 1 } }, rfl, hr, eY, uF, fun s => aJ.rH hA _ _ (hf s), fun p hp => aJ.rH hA _ _ (hG p hp)⟩, hn, eI⟩
theorem rA {id tl : Nat} {ops : Array Oper} {K : PS → Prop} {Q : Exit → Act → World → Prop} (fJ : oZ E n tl ops true = true) {σ : PS} {a : Act} {w : World} (h : fN E tl ops.toList K σ) (hR : Rel w0 S0 n G σ a w)
  (hK : ∀ σ' a' w', K σ' → Rel w0 S0 n G σ' a' w' → Q .normal a' w') : (Code.region id ops true).wp E.P Q a w := by
 simp only [oZ, Bool.and_eq_true, Bool.not_true, Bool.false_or] at fJ
 obtain ⟨ahn, rB, fJ⟩ := fJ
 have hd : ∀ o, o ∈ ops → ∀ t, o.dst = some t → t < n := by
  intro o ho t ht
  have := Array.all_eq_true_iff_forall_mem.1 ahn o ho
  simpa [ht] using this
 refine wp_region_any E.mixed ?_
 have G9 := hR.drew
 have hU0 : ∀ k (l : Array Bool), nJ w0 S0 n G (Ul E ops σ.clock k l) σ.f σ.rows a { w with drawn := w.drawn + 1 } := fun k l => G9.mono fun v hv => .inl hv
 have acp : ∀ (l : List Oper), rN E l = true → ∀ (i : Nat) (oi : Oper), l[i]? = some oi → cT E oi.op = true → oi.dst.isSome = true := fun l h i oi hi hn => by
  have := List.all_eq_true.1 h oi (List.mem_of_getElem? hi)
  rw [hn] at this; simp at this; exact Option.isSome_iff_exists.2 (by obtain ⟨x, hx⟩ := Option.isSome_iff_exists.1 this.1; exact ⟨x, hx⟩)
 unfold fN at h
 by_cases htl : tl = 0
 ·rw [if_pos htl] at h fJ rB
  have nI : ∀ i oi, i < ops.size → ops[i]? = some oi → cT E oi.op = true → oi.dst.isSome = true := fun i oi _ hi => acp _ rB i oi (by simpa using hi)
  simp only [Bool.and_eq_true] at fJ
  have hl := mT (c0 := σ.clock) ops.toList 0 _ _ (by simp) rB (by simp [rk]) h
  have WW : HeadInv .any ops ops.size (Array.replicate ops.size false) :=
   ⟨by simp, fun j oj _ hl => (by rw [getD_replicate_false] at hl; cases hl), fun t h1 h2 => by omega⟩
  have yW : ∀ aY, HeadInv .any ops ops.size aY → ∀ i, i < ops.size → aY.getD i true = false → ∀ t, ops.size ≤ t → t ∉ Region.ready .any ops aY := by
   intro aY _ i _ _ t ht hr
   obtain ⟨_, o, ho, _⟩ := mem_ready.1 hr
   have := (Array.getElem?_eq_some_iff.1 ho).1
   omega
  have H := pY (E := E) (md := .any) (g := 0) nI yW ops.toList 0 _ _ (by simp) (by simp) WW (by simpa using fJ.2) hl
  have := jX (E := E) (md := .any) (g := 0) (Q := Q) (m := n) hd (fun aY st a' w' hL j1 => by
   obtain ⟨h1, h2⟩ := hL
   exact ⟨by simpa [Region.seqB] using h1, hK _ _ _ h2 (j1.mono fun v hv => by have := LX hv; simpa using this)⟩) _ _ _ _ _ (by simp) H (hU0 _ _)
  simpa using this
 ·rw [if_neg htl] at h fJ rB
  have nI : ∀ i oi, i < ops.size - tl → ops[i]? = some oi → cT E oi.op = true → oi.dst.isSome = true := fun i oi h1 hi => acp _ rB i oi (by rw [List.getElem?_take, if_pos h1]; simpa using hi)
  simp only [Bool.and_eq_true, decide_eq_true_eq] at fJ
  obtain ⟨hle, hB⟩ := fJ
  simp only [Region.lexTailB, Bool.and_eq_true, decide_eq_true_eq] at hB
  obtain ⟨⟨⟨⟨ar4, vT⟩, hs⟩, hc⟩, aho⟩ := hB
  have hlen : ops.toList.length = ops.size := by simp
  rw [hlen] at h
  have hl := mT (c0 := σ.clock) (ops.toList.take (ops.size - tl)) 0 _ _ (fun j hj => by
   have hj' : j < ops.size - tl := by simpa using hj
   simp [hj']) rB (by simp [rk]) h
  have WW : HeadInv .any ops (ops.size - tl) (Array.replicate ops.size false) :=
   ⟨by simp, fun j oj _ hl => (by rw [getD_replicate_false] at hl; cases hl), fun t _ ht => getD_in (by simpa using ht) (getD_replicate_false _ _)⟩
  have uH : (ops.toList.take (ops.size - tl)).length = ops.size - tl := by simp
  have WX : (ops.toList.drop (ops.size - tl)).length = ops.size - (ops.size - tl) := by simp
  have H := pY (E := E) (md := .any) (n := ops.size - tl) (g := ops.size - (ops.size - tl)) nI (fun aY inv i hi KX t ht => tail_waits hs hc vT inv _ i rfl hi KX t ht) (ops.toList.take (ops.size - tl)) 0 _ _ (fun j hj => by
   rw [uH] at hj
   simp [hj]) (by rw [uH]; simp) WW (by rw [uH]; exact aho) hl
  have := jX (E := E) (md := .any) (g := ops.size - (ops.size - tl)) (Q := Q) (m := n) hd (fun aY st a' w' hL j1 => by
   obtain ⟨h1, h2⟩ := hL
   have h3 := fT (ops := ops) (Q := Q) hK (ops.toList.drop (ops.size - tl)) _ a' w' (fun o ho => hd o (by simpa using List.mem_of_mem_drop ho)) h2 (j1.mono fun v hv => by have := LX hv; simpa using this)
   have h4 := wpAny_of_seq (md := .any) (Q' := Q) (ops.toList.drop (ops.size - tl)) (ops.size - tl) aY a' w' (fun j => by simp [List.getElem?_drop]) (by rw [WX]; exact h1) h3
   rwa [WX] at h4) _ _ _ _ _ (by simp) H (hU0 _ _)
  rw [uH, show ops.size - tl + (ops.size - (ops.size - tl)) = ops.size by omega] at this
  exact this
def ahp : PX → Exit
 | .normal => .normal
 | .exit id => .exit id
 | .ret => .ret
end
def oA (E : Env) (σ : PS) : List ResultVar → (List PV → Prop) → Prop
 | [], K => K []
 | .tmp t :: rs, K => oA E σ rs fun vs => K (σ.f t :: vs)
 | .cell a t :: rs, K => ∃ v, qU E t σ.rows (σ.f a) v ∧ oA E σ rs fun vs => K (v :: vs)
def HC : List PV → PV
 | [x] => x
 | l => .eA l
def WY (E : Env) (rs : List ResultVar) (r : PV) (σ : PS) : Prop :=
 oA E σ rs fun vs => dI σ.rows (vs.flatMap dA) ∧ (vs.map (pz σ.rows)).all eW = true ∧ r = HC (vs.map (pz σ.rows))
def acr (E : Env) (rs : List ResultVar) (r : PV) : PX → PS → Prop
 | .normal, σ => WY E rs r σ
 | .ret, σ => WY E rs r σ
 | .exit _, _ => False
def CI (args : List PV) : PS := ⟨fun s => args.getD s .undef, fun _ => none, 0⟩
section
variable {E : Env} {w0 : World} {S0 : c9} {c : Cx}
theorem pZ (hI : Inv w0 S0 c) {clk : Nat} {a : Act} {f : Nat → PV} (hf : ∀ s, aJ c (f s) (a.tmps.getD s undef)) {g : ResultVar → Sem Value} (WZ : ∀ t, g (.tmp t) = pure (a.tmps.getD t undef))
  (mG : ∀ x t, g (.cell x t) = do loadVar t (← asAddr (a.tmps.getD x undef))) : ∀ (rs : List ResultVar) (K : List PV → Prop), oA E ⟨f, c.rows, clk⟩ rs K →
  ∃ vs us, K vs ∧ a7 (aJ c) vs us ∧ (rs.mapM g : Sem (List Value)).run E.P c.w = .ok us c.w
 | [], K, h => ⟨[], [], h, trivial, by simp⟩
 | .tmp t :: rs, K, h => by
  obtain ⟨vs, us, h1, h2, h3⟩ := pZ hI hf WZ mG rs _ h
  exact ⟨f t :: vs, a.tmps.getD t undef :: us, h1, ⟨hf t, h2⟩, by
   rw [List.mapM_cons, WZ, Sem.run_bind, Sem.run_pure, Result.andThen_ok, Sem.run_bind, h3, Result.andThen_ok, Sem.run_pure]⟩
 | .cell x t :: rs, K, h => by
  obtain ⟨v, hv, h⟩ := h
  obtain ⟨vs, us, h1, h2, h3⟩ := pZ hI hf WZ mG rs _ h
  obtain ⟨u, hu, hr⟩ := B7 hI (hf x) hv
  refine ⟨v :: vs, u :: us, h1, ⟨hr, h2⟩, ?_⟩
  have SF : (do loadVar t (← asAddr (a.tmps.getD x undef)) : Sem Value).run E.P c.w = .ok u c.w := by
   simp only [Instr.loadAt, Sem.run_bind] at hu ⊢
   cases hx : a.tmps.getD x undef with
   | pointer p =>
    cases p with
    | some ad => rw [hx] at hu; simpa [Instr.sureAddr, asAddr] using hu
    | none => rw [hx] at hu; simp [Instr.sureAddr, stuck, Result.andThen] at hu
   | _ => rw [hx] at hu; simp [Instr.sureAddr, stuck, Result.andThen] at hu
  rw [List.mapM_cons, mG]
  simp only [Sem.run_bind] at SF ⊢
  rw [SF, Result.andThen_ok, h3, Result.andThen_ok, Sem.run_pure]
theorem LY {CJ : FuncId} {fn : Func} {code : Code} {args : List PV} {r : PV} (h1 : E.P.funcs[CJ]? = some fn) (h2 : fn.body = some code) (h3 : (fn.name == "runtime.NumGoroutine") = false) (fM : args.length ≤ fn.ntmps)
  (h : ∀ (w0 : World) (S0 : c9) (a : Act) (w : World) (Q' : Exit → Act → World → Prop), Rel w0 S0 fn.ntmps Gs.none (CI args) a w → (∀ x σ' a' w', acr E fn.results.toList r x σ' → Rel w0 S0 fn.ntmps Gs.none σ' a' w' → Q' (ahp x) a' w') → code.wp E.P Q' a w) : aK E.P CJ args r := by
 refine ⟨⟨fn, code, h1, h2, h3⟩, fun w S vs hS fB => ?_⟩
 have yL := cC.1 fB
 refine calls_of_wp h1 h2 ?_
 have LB : vs.length = args.length := yL.length.symm
 let c0 : Cx := ⟨S, w, fun _ => .slice none 0 0, fun _ => none, fun _ => False⟩
 have hI0 : Inv w S c0 := ⟨Below.refl _ _, fun _ _ h => h, fun _ _ h => .inl h, hS, fun _ _ h => by simp [c0] at h, fun _ _ h => by simp [c0] at h, fun _ _ _ _ _ h => by simp [c0] at h⟩
 have G9 : Rel w S fn.ntmps Gs.none (CI args) { tmps := vs.toArray ++ Array.replicate (fn.ntmps - vs.toArray.size) undef, defers := [] } w := by
  refine ⟨⟨c0, rfl, rfl, fun _ h => h.elim, hI0, fun s => ?_, fun p hp => (Gs.GZ hp).elim⟩, by simp; omega, rfl⟩
  simp only [CI]
  by_cases hs : s < args.length
  ·obtain ⟨u, hu, hr⟩ := yL.get (List.getElem?_eq_getElem hs)
   have e1 : args.getD s .undef = args[s] := by simp [List.getD, List.getElem?_eq_getElem hs]
   have e2 : (vs.toArray ++ Array.replicate (fn.ntmps - vs.toArray.size) undef).getD s undef = u := by
    have : s < vs.length := by omega
    simp [this] at hu ⊢
    simp [Array.getElem?_append, this, hu]
   rw [e1]
   show aJ c0 args[s] ((vs.toArray ++ Array.replicate (fn.ntmps - vs.toArray.size) undef).getD s undef)
   rw [e2]
   exact aJ.iW hr
  ·have e1 : args.getD s .undef = .undef := by simp [List.getD, List.getElem?_eq_none (show args.length ≤ s by omega)]
   rw [e1]
   simp [aJ, aP]
 refine h _ _ _ _ _ G9 ?_
 have fin : ∀ σ' a' w', WY E fn.results.toList r σ' → Rel w S fn.ntmps Gs.none σ' a' w' → a'.defers = [] ∧ ∃ v, (results fn a'.tmps).run E.P w' = .ok v w' ∧ (∃ v', Ending.returned v = .returned v' ∧ Below w.heap.size w w' ∧
   ∃ S' : c9, (∀ b o, S b o → S' b o) ∧ (∀ b o, S' b o → S b o ∨ (w.heap.size ≤ b ∧ b < w'.heap.size)) ∧ cJ S' w' r v') := by
  rintro σ' a' w' hp ⟨⟨c, rfl, hr, eY, hI, hf, _⟩, hn, eI⟩
  refine ⟨eI, ?_⟩
  unfold WY at hp
  have uD : oA E ⟨σ'.f, c.rows, σ'.clock⟩ fn.results.toList fun vs => dI c.rows (vs.flatMap dA) ∧ (vs.map (pz c.rows)).all eW = true ∧ r = HC (vs.map (pz c.rows)) := by
   rw [hr]; exact hp
  have amp : ∃ vs us, (dI c.rows (vs.flatMap dA) ∧ (vs.map (pz c.rows)).all eW = true ∧ r = HC (vs.map (pz c.rows))) ∧ a7 (aJ c) vs us ∧
    (results fn a'.tmps).run E.P c.w = .ok (if h : us.toArray.size = 1 then us.toArray[0] else .tuple us.toArray) c.w := by
   have key : ∀ g : ResultVar → Sem Value, (∀ t, g (.tmp t) = pure (a'.tmps.getD t undef)) → (∀ x t, g (.cell x t) = do loadVar t (← asAddr (a'.tmps.getD x undef))) →
     ∃ vs us, (dI c.rows (vs.flatMap dA) ∧ (vs.map (pz c.rows)).all eW = true ∧ r = HC (vs.map (pz c.rows))) ∧ a7 (aJ c) vs us ∧
      (do let vs ← fn.results.mapM g; pure (if h : vs.size = 1 then vs[0] else .tuple vs) : Sem Value).run E.P c.w = .ok (if h : us.toArray.size = 1 then us.toArray[0] else .tuple us.toArray) c.w := by
    intro g WZ mG
    obtain ⟨vs, us, g1, g4, g5⟩ := pZ hI hf WZ mG _ _ uD
    refine ⟨vs, us, g1, g4, ?_⟩
    have : (fn.results.mapM g).run E.P c.w = .ok us.toArray c.w := by
     rw [Array.mapM_eq_mapM_toList]
     simp [g5]
    rw [Sem.run_bind, this, Result.andThen_ok, Sem.run_pure]
   unfold results
   exact key _ (fun _ => rfl) (fun _ _ => rfl)
  obtain ⟨vs, us, ⟨g1, g2, g3⟩, g4, iX⟩ := amp
  have G1 := hI.freeze (vs.flatMap dA)
  have rP : a7 (cJ (LM c (vs.flatMap dA)) c.w) (vs.map (pz c.rows)) us := by
   refine a7.cV (by simp [g4.length]) fun k p u hp hu => ?_
   simp at hp
   obtain ⟨q, hq, rfl⟩ := hp
   obtain ⟨u', q1, q2⟩ := g4.get hq
   rw [hu] at q1; cases q1
   exact EB hI g1 q2 (fun id gI => by simp only [List.mem_flatMap]; exact ⟨q, List.mem_of_getElem? hq, gI⟩) (List.all_eq_true.1 g2 _ (by simp; exact ⟨q, List.mem_of_getElem? hq, rfl⟩))
  refine ⟨_, iX, _, rfl, hI.below, LM c (vs.flatMap dA), fun b o h => G1.ext b o h, fun b o h => G1.new b o h, ?_⟩
  rw [g3]
  have hl := rP.length
  cases hm : vs.map (pz c.rows) with
  | nil =>
   rw [hm] at rP hl
   have : us = [] := List.eq_nil_of_length_eq_zero (by simpa using hl.symm)
   subst this
   simp only [HC, cJ]
   exact ⟨[], by simp, by simp [bI]⟩
  | cons p ps =>
   rw [hm] at rP hl
   match us, rP with
   | u :: us, rP =>
    cases ps with
    | nil =>
     match us, rP with
     | [], rP => simpa [HC] using rP.1
    | cons q qs =>
     have h2 : ¬ (u :: us).toArray.size = 1 := by simp at hl ⊢; intro h; subst h; simp at hl
     rw [dif_neg h2]
     simp only [HC, cJ]
     exact ⟨_, rfl, cC.2 rP⟩
 intro x σ' a' w' hx j1
 cases x with
 | normal => exact fin σ' a' w' hx j1
 | ret => exact fin σ' a' w' hx j1
 | exit id => exact hx.elim
end
section
variable {P : Program} {t : TypeId}
theorem aF {n : Nat} {v : Value} {z : List PV} (h : (P.info? t).bind (fun i => i.zero.map fun v => (i.size, v)) = some (n, v)) (hz : v.cells.toList.map iA = z) (h1 : v.cells.all (·.oneCell') = true) (hl : z.length = n) (hp : 0 < n) : kB P t n z := by
 refine ⟨?_, hl, hp⟩
 cases hi : P.info? t with
 | none => simp [hi] at h
 | some i =>
  cases qP : i.zero with
  | none => simp [hi, qP] at h
  | some v0 =>
   simp [hi, qP] at h
   obtain ⟨rfl, rfl⟩ := h
   exact ⟨i, v0, rfl, qP, rfl, hz, h1⟩
theorem cH {b : Nat} (h : (P.info? t).map (·.bytes) = some b) : ∃ i, P.info? t = some i ∧ i.bytes = b := by
 cases hi : P.info? t with
 | none => simp [hi] at h
 | some i => exact ⟨i, rfl, by simpa [hi] using h⟩
theorem SU {n : Nat} (h : (P.info? t).map (·.size) = some n) : ∃ i, P.info? t = some i ∧ i.size = n := by
 cases hi : P.info? t with
 | none => simp [hi] at h
 | some i => exact ⟨i, rfl, by simpa [hi] using h⟩
theorem W1 (h : (P.underlying t).isSome = true) : ∃ d, P.underlying t = some d := Option.isSome_iff_exists.1 h
def LZ (P : Program) (f : Field) (x : Nat × Nat × Bool) : Bool :=
 f.offset == x.1 && (P.info? f.type).map (·.size) == some x.2.1 && decide (0 < x.2.1) && uN P f.type == x.2.2 && (P.underlying f.type).isSome
def p5 (P : Program) : List Field → List (Nat × Nat × Bool) → Bool
 | [], [] => true
 | f :: fs, x :: xs => LZ P f x && p5 P fs xs
 | _, _ => false
theorem SV {f : Field} {x : Nat × Nat × Bool} (h : LZ P f x = true) : lN P f x := by
 simp only [LZ, Bool.and_eq_true, beq_iff_eq, decide_eq_true_eq] at h
 obtain ⟨⟨⟨⟨h1, h2⟩, h3⟩, h4⟩, h5⟩ := h
 exact ⟨h1, SU h2, h3, h4, W1 h5⟩
theorem yX : ∀ {fs : List Field} {xs : List (Nat × Nat × Bool)}, p5 P fs xs = true → a7 (lN P) fs xs
 | [], [], _ => trivial
 | f :: fs, x :: xs, h => by
  simp only [p5, Bool.and_eq_true] at h
  exact ⟨SV h.1, yX h.2⟩
 | [], _ :: _, h => by simp [p5] at h
 | _ :: _, [], h => by simp [p5] at h
def PQ (P : Program) (t : TypeId) (xs : List (Nat × Nat × Bool)) : Bool :=
 match P.underlying t with
 | some (.struct fields) => p5 P fields.toList xs
 | _ => false
theorem bA {xs : List (Nat × Nat × Bool)} (h : PQ P t xs = true) : ∃ fields : Array Field, P.underlying t = some (.struct fields) ∧ a7 (lN P) fields.toList xs := by
 unfold PQ at h
 split at h
 ·rename_i fields hu; exact ⟨fields, hu, yX h⟩
 ·cases h
end
def W (E : Env) (n : Nat) (tl : Nat → Nat) (c : Code) (Q : PX → PS → Prop) (σ : PS) : Prop :=
 dY E n tl c = true → ∀ (w0 : World) (S0 : c9) (G : Gs) (a : Act) (w : World) (Q' : Exit → Act → World → Prop), Rel w0 S0 n G σ a w →
  (∀ x σ' a' w', Q x σ' → Rel w0 S0 n G σ' a' w' → Q' (ahp x) a' w') → c.wp E.P Q' a w
def Gh (n : Nat) (σ σ' : PS) : Prop := ∀ (w0 : World) (S0 : c9) (G : Gs) (a : Act) (w : World), Rel w0 S0 n G σ a w → Rel w0 S0 n G σ' a w
section
variable {E : Env} {n : Nat} {tl : Nat → Nat} {Q : PX → PS → Prop} {σ : PS}
theorem W.ghost {c : Code} {σ' : PS} (h : Gh n σ σ') (hw : W E n tl c Q σ') : W E n tl c Q σ := fun fJ w0 S0 G a w Q' hR hQ => hw fJ w0 S0 G a w Q' (h _ _ _ _ _ hR) hQ
theorem W.mono {c : Code} {Q2 : PX → PS → Prop} (hw : W E n tl c Q2 σ) (h : ∀ x σ, Q2 x σ → Q x σ) : W E n tl c Q σ := fun fJ w0 S0 G a w Q' hR hQ => hw fJ w0 S0 G a w Q' hR fun x σ' a' w' hx => hQ x σ' a' w' (h x σ' hx)
theorem W.skip (h : Q .normal σ) : W E n tl .skip Q σ := fun _ _ _ _ a w _ hR hQ => wp_skip (hQ .normal σ a w h hR)
theorem W.ret (h : Q .ret σ) : W E n tl .ret Q σ := fun _ _ _ _ a w _ hR hQ => wp_ret (hQ .ret σ a w h hR)
theorem W.exit {id : Nat} (h : Q (.exit id) σ) : W E n tl (.exit id) Q σ := fun _ _ _ _ a w _ hR hQ => wp_exit (hQ (.exit id) σ a w h hR)
theorem W.HD {id : Nat} {ops : List Oper} (h : ∀ K : PS → Prop, (∀ σ, Q .normal σ → K σ) → aL E ops ops K σ) : W E n tl (.region id ops.toArray false) Q σ := by
 intro fJ w0 S0 G a w Q' hR hQ
 simp only [dY, oZ, Bool.and_eq_true] at fJ
 refine wp_region_list (fT (fun σ' a' w' hk j1 => hQ .normal σ' a' w' hk j1) _ σ a w (fun o ho t ht => ?_) (h _ fun _ h => h) hR)
 have := Array.all_eq_true_iff_forall_mem.1 fJ.1 o (by simpa using ho)
 simpa [ht] using this
theorem W.W2 {id : Nat} {ops : List Oper} (h : ∀ K : PS → Prop, (∀ σ, Q .normal σ → K σ) → fN E (tl id) ops K σ) : W E n tl (.region id ops.toArray true) Q σ := by
 intro fJ w0 S0 G a w Q' hR hQ
 exact rA (by simpa [dY] using fJ) (h _ fun _ h => h) hR fun σ' a' w' hk j1 => hQ .normal σ' a' w' hk j1
theorem W.seq {x y : Code} (h : W E n tl x (BI (W E n tl y Q) Q) σ) : W E n tl (.seq x y) Q σ := by
 intro fJ w0 S0 G a w Q' hR hQ
 simp only [dY, Bool.and_eq_true] at fJ
 refine wp_seq (h fJ.1 w0 S0 G a w _ hR fun x σ' a' w' hx j1 => ?_)
 cases x with
 | normal => exact hx fJ.2 w0 S0 G a' w' _ j1 hQ
 | exit id => exact hQ (.exit id) σ' a' w' hx j1
 | ret => exact hQ .ret σ' a' w' hx j1
theorem W.L3 {id : Nat} {ops : List Oper} {y : Code} (h : ∀ K : PS → Prop, (∀ σ, W E n tl y Q σ → K σ) → aL E ops ops K σ) : W E n tl (.seq (.region id ops.toArray false) y) Q σ :=
 W.seq (W.HD h)
theorem W.W3 {id : Nat} {ops : List Oper} {y : Code} (h : ∀ K : PS → Prop, (∀ σ, W E n tl y Q σ → K σ) → fN E (tl id) ops K σ) : W E n tl (.seq (.region id ops.toArray true) y) Q σ :=
 W.seq (W.W2 h)
theorem W.cond {c : Operand} {t e : Code} (h : ∃ b, aQ σ.f c = .bool b ∧ (b = true → W E n tl t Q σ) ∧ (b = false → W E n tl e Q σ)) : W E n tl (.cond c t e) Q σ := by
 intro fJ w0 S0 G a w Q' hR hQ
 simp only [dY, Bool.and_eq_true] at fJ
 obtain ⟨b, hb, h1, h2⟩ := h
 obtain ⟨cx, _, _, _, _, hf, _⟩ := hR.ex
 have := kI hf c
 rw [hb, cW] at this
 refine wp_cond this ?_
 cases b with
 | true => exact h1 rfl fJ.1 w0 S0 G a w Q' hR hQ
 | false => exact h2 rfl fJ.2 w0 S0 G a w Q' hR hQ
theorem W.block {id : Nat} {c : Code} (h : W E n tl c (BJ id Q) σ) : W E n tl (.block id c) Q σ := by
 intro fJ w0 S0 G a w Q' hR hQ
 refine wp_block (h fJ w0 S0 G a w _ hR fun x σ' a' w' hx j1 => ?_)
 cases x with
 | normal => exact hQ .normal σ' a' w' hx j1
 | exit j =>
  simp only [BJ] at hx
  simp only [ahp, Exit.inBlock]
  split at hx
  ·rename_i hj; rw [if_pos hj]; exact hQ .normal σ' a' w' hx j1
  ·rename_i hj; rw [if_neg hj]; exact hQ (.exit j) σ' a' w' hx j1
 | ret => exact hQ .ret σ' a' w' hx j1
theorem W.loop {c : Code} (I : Nat → PS → Prop) (k : Nat) (h0 : I k σ) (h1 : ∀ k σ, I k σ → W E n tl c (BI (fun σ' => ∃ m, m < k ∧ I m σ') Q) σ) : W E n tl (.loop c) Q σ := by
 intro fJ w0 S0 G a w Q' hR hQ
 refine wp_loop_ghost (fun k a w => ∃ σ, I k σ ∧ Rel w0 S0 n G σ a w) k ⟨σ, h0, hR⟩ ?_
 rintro k a w ⟨σ, hI, hR⟩
 refine h1 k σ hI fJ w0 S0 G a w _ hR fun x σ' a' w' hx j1 => ?_
 cases x with
 | normal => obtain ⟨m, hm, uF⟩ := hx; exact ⟨m, hm, σ', uF, j1⟩
 | exit id => exact hQ (.exit id) σ' a' w' hx j1
 | ret => exact hQ .ret σ' a' w' hx j1
end
theorem W4 {E : Env} {CJ : FuncId} {fn : Func} {code : Code} (tl : Nat → Nat) {args : List PV} {r : PV} (h1 : E.P.funcs[CJ]? = some fn) (h2 : fn.body = some code) (h3 : (fn.name == "runtime.NumGoroutine") = false)
  (fJ : dY E fn.ntmps tl code = true) (fM : args.length ≤ fn.ntmps) (h : W E fn.ntmps tl code (acr E fn.results.toList r) (CI args)) : aK E.P CJ args r :=
 LY h1 h2 h3 fM fun w0 S0 a w Q' hR hQ => h fJ w0 S0 Gs.none a w Q' hR hQ
def go (P : Prop) : Prop := P
def aU (R : PV → Prop) (K : PV → Prop) : Prop := ∃ v, R v ∧ K v
def gJ (p : PV) (want : Bool) (A B : Prop) : Prop := ∃ t, p = .bool t ∧ (t = want → A) ∧ (t = (!want) → B)
def stepG (p : PV) (want : Bool) (A B : Prop) : Prop := (p = .bool want ∧ A) ∨ ((p = .bool (!want) ∨ p = .eA []) ∧ B)
def aH (A B : Prop) : Prop := A ∧ B
@[congr] theorem ae6 {R R' K : PV → Prop} (h : ∀ v, R v = R' v) : aU R K = aU R' K := by rw [show R = R' from funext h]
@[congr] theorem ae7 {p p' : PV} {want : Bool} {A B : Prop} (h : p = p') : gJ p want A B = gJ p' want A B := by rw [h]
@[congr] theorem ae8 {p p' : PV} {want : Bool} {A B : Prop} (h : p = p') : stepG p want A B = stepG p' want A B := by rw [h]
@[congr] theorem ae9 {A A' B : Prop} (h : A = A') : aH A B = aH A' B := by rw [h]
@[congr] theorem ahq {E : Env} {ops l : List Oper} {K : PS → Prop} {σ σ' : PS} (h : σ = σ') : aL E ops l K σ = aL E ops l K σ' := by rw [h]
@[congr] theorem ahr {E : Env} {ops l : List Oper} {clk k k' : Nat} {K : PS → Prop} {σ σ' : ST} (hk : k = k') (h : σ = σ') : aN E ops clk k l K σ = aN E ops clk k' l K σ' := by rw [hk, h]
@[congr] theorem ahs {md : Region.Mode} {ops : List Oper} {j j' k k' : Nat} (hj : j = j') (hk : k = k') : nK md ops j k = nK md ops j' k' := by rw [hj, hk]
@[congr] theorem akd {md : Region.Mode} {ops : List Oper} {i i' id iS : Nat} {t t' : Nat → Nat → Prop} (hi : i = i') (gI : id = iS) (ht : t = t') : yS md ops i id t = yS md ops i' iS t' := by rw [hi, gI, ht]
@[congr] theorem aht {md : Region.Mode} {ops : List Oper} {i i' : Nat} {t t' : Nat → Nat → Prop} {rows rows' : Rows} (hi : i = i') (ht : t = t') (hr : rows = rows') : dJ md ops i t rows = dJ md ops i' t' rows' := by rw [hi, ht, hr]
@[congr] theorem abI {E : Env} {tl : Nat} {l : List Oper} {K : PS → Prop} {σ σ' : PS} (h : σ = σ') : fN E tl l K σ = fN E tl l K σ' := by rw [h]
@[congr] theorem apX {E : Env} {n : Nat} {tl : Nat → Nat} {c : Code} {Q : PX → PS → Prop} {σ σ' : PS} (h : σ = σ') : W E n tl c Q σ = W E n tl c Q σ' := by rw [h]
theorem iZ {t : PV} {K : PV → Prop} : aU (fun v => v = t) K = K t := by simp [aU]
theorem SW {t : PV} {K : PV → Prop} : aU (fun v => t = v) K = K t := by simp [aU]
theorem iK {c : Prop} {R K : PV → Prop} : aU (fun v => c ∧ R v) K = aH c (aU R K) := by
 apply propext; simp only [aU, aH]
 constructor
 ·rintro ⟨v, ⟨h1, h2⟩, h3⟩; exact ⟨h1, v, h2, h3⟩
 ·rintro ⟨h1, v, h2, h3⟩; exact ⟨v, ⟨h1, h2⟩, h3⟩
theorem W5 {α : Type} {R : α → PV → Prop} {K : PV → Prop} : aU (fun v => ∃ x, R x v) K = ∃ x, aU (R x) K := by
 apply propext; simp only [aU]
 constructor
 ·rintro ⟨v, ⟨x, h2⟩, h3⟩; exact ⟨x, v, h2, h3⟩
 ·rintro ⟨x, v, h2, h3⟩; exact ⟨v, ⟨x, h2⟩, h3⟩
theorem L4 {B : Prop} : aH True B = B := by simp [aH]
theorem W6 {A B : Prop} : gJ (.bool true) true A B = A := by simp [gJ]
theorem W7 {A B : Prop} : gJ (.bool true) false A B = B := by simp [gJ]
theorem W8 {A B : Prop} : gJ (.bool false) true A B = B := by simp [gJ]
theorem W9 {A B : Prop} : stepG (.bool true) true A B = A := by simp [stepG]
theorem XA {A B : Prop} : stepG (.bool true) false A B = B := by simp [stepG]
theorem XB {A B : Prop} : stepG (.bool false) true A B = B := by simp [stepG]
theorem XC {A B : Prop} : stepG (.bool false) false A B = A := by simp [stepG]
theorem XD {w : Bool} {A B : Prop} : stepG (.eA []) w A B = B := by simp [stepG]
theorem XE {A B : Prop} : gJ (.bool false) false A B = A := by simp [gJ]
theorem yY {f : Nat → PV} {d j : Nat} {v : PV} : put f (some d) v j = if j = d then v else f j := rfl
theorem XF {f : Nat → PV} {v : PV} : put f none v = f := rfl
theorem ahu {α : Type} {f : Nat → α} {i j : Nat} {x : α} : dC f i x j = if j = i then x else f j := rfl
def fa : List (Nat × PV) → Nat → PV
 | [], _ => .undef
 | (i, v) :: l, j => if j = i then v else fa l j
theorem L5 {j : Nat} : fa [] j = .undef := rfl
theorem EL {i j : Nat} {v : PV} {l : List (Nat × PV)} : fa ((i, v) :: l) j = if j = i then v else fa l j := rfl
section
variable {E : Env} {ops os : List Oper} {K : PS → Prop} {f : Nat → PV} {rows : Rows} {clk : Nat} {d : Option Tmp} {ty : TypeId} {pos : String} {af : Array Edge}
theorem aC (n : Nat) (l : List Nat) : Gh n ⟨f, rows, clk⟩ ⟨fa (l.map fun i => (i, f i)), rows, clk⟩ := by
 rintro w0 S0 G a w ⟨⟨c, h1, h2, h3, h4, h5, h6⟩, h7, h8⟩
 refine ⟨⟨c, h1, h2, h3, h4, fun s => ?_, h6⟩, h7, h8⟩
 have : fa (l.map fun i => (i, f i)) s = f s ∨ fa (l.map fun i => (i, f i)) s = .undef := by
  induction l with
  | nil => exact .inr rfl
  | cons i l ih =>
   simp only [List.map_cons, fa]
   split
   ·rename_i h; rw [h]; exact .inl rfl
   ·exact ih
 rcases this with h | h
 ·simp only; rw [h]; exact h5 s
 ·simp only; rw [h]; simp [aJ, aP]
theorem W.live {n : Nat} {tl : Nat → Nat} {c : Code} {Q : PX → PS → Prop} (l : List Nat) (h : W E n tl c Q ⟨fa (l.map fun i => (i, f i)), rows, clk⟩) : W E n tl c Q ⟨f, rows, clk⟩ := W.ghost (aC n l) h
theorem L6 {op : Op} {j : Nat} {want : Bool} : aL E ops (⟨d, op, ty, pos, af, some (j, want)⟩ :: os) K ⟨f, rows, clk⟩ =
  match (ops[j]?).bind (·.dst) with
  | none => False
  | some e => stepG (f e) want (aL E ops (⟨d, op, ty, pos, af, none⟩ :: os) K ⟨f, rows, clk⟩) (aL E ops os K ⟨put f d (.eA []), rows, clk⟩) := by
 simp only [aL]
 cases hx : (ops[j]?).bind (·.dst) with
 | none => rfl
 | some e => rfl
theorem bV {R : PV → Prop} {k : PV → Prop} (h : ∀ v, R v ↔ k v) : (∃ v u, (R v ∧ u = none) ∧ K ⟨put f d v, fC rows u, clk⟩) = aU k fun v => K ⟨put f d v, rows, clk⟩ := by
 apply propext; simp only [aU]
 constructor
 ·rintro ⟨v, u, ⟨h1, rfl⟩, h2⟩; exact ⟨v, (h v).1 h1, h2⟩
 ·rintro ⟨v, h1, h2⟩; exact ⟨v, none, ⟨(h v).2 h1, rfl⟩, h2⟩
theorem SX {x : Operand} : aL E ops (⟨d, .move x, ty, pos, af, none⟩ :: os) K ⟨f, rows, clk⟩ = aL E ops os K ⟨put f d (aQ f x), rows, clk⟩ := by
 simp only [aL, dQ, ys, yv]
 rw [bV (k := fun v => v = aQ f x) (fun v => Iff.rfl), iZ]
theorem HE {x : Operand} : aL E ops (⟨d, .assign x, ty, pos, af, none⟩ :: os) K ⟨f, rows, clk⟩ = aL E ops os K ⟨put f d (aQ f x), rows, clk⟩ := by
 simp only [aL, dQ, ys, yv]
 rw [bV (k := fun v => v = aQ f x) (fun v => Iff.rfl), iZ]
theorem SY {c a b : Operand} : aL E ops (⟨d, .pick c a b, ty, pos, af, none⟩ :: os) K ⟨f, rows, clk⟩ = gJ (aQ f c) true (aL E ops os K ⟨put f d (aQ f a), rows, clk⟩) (aL E ops os K ⟨put f d (aQ f b), rows, clk⟩) := by
 simp only [aL, dQ, ys, yv]
 rw [bV (fun v => Iff.rfl)]
 apply propext; simp only [aU, gJ]
 constructor
 ·rintro ⟨v, ⟨t, h1, rfl⟩, h2⟩
  refine ⟨t, h1, fun h => ?_, fun h => ?_⟩
  ·subst h; exact h2
  ·subst h; exact h2
 ·rintro ⟨t, h1, h2, h3⟩
  cases t with
  | true => exact ⟨_, ⟨true, h1, rfl⟩, h2 rfl⟩
  | false => exact ⟨_, ⟨false, h1, rfl⟩, h3 rfl⟩
theorem XG {op : BinOp} {t t2 : TypeId} {x y : Operand} : aL E ops (⟨d, .binOp op t x y t2, ty, pos, af, none⟩ :: os) K ⟨f, rows, clk⟩ = aU (fun v => D4 E op t (aQ f x) (aQ f y) v) fun v => aL E ops os K ⟨put f d v, rows, clk⟩ := by
 simp only [aL, dQ, ys, yv]
 rw [bV (fun v => Iff.rfl)]
theorem acs {op : UnOp} {t : TypeId} {x : Operand} : aL E ops (⟨d, .unOp op t x, ty, pos, af, none⟩ :: os) K ⟨f, rows, clk⟩ = aU (fun v => yun op (aQ f x) v) fun v => aL E ops os K ⟨put f d v, rows, clk⟩ := by
 simp only [aL, dQ, ys, yv]
 rw [bV (k := fun v => yun op (aQ f x) v) (fun v => Iff.rfl)]
theorem SZ {s t : TypeId} {x : Operand} : aL E ops (⟨d, .convert s t x, ty, pos, af, none⟩ :: os) K ⟨f, rows, clk⟩ = aU (fun v => qW (E.ty s) (E.ty t) (aQ f x) v) fun v => aL E ops os K ⟨put f d v, rows, clk⟩ := by
 simp only [aL, dQ, ys, yv]
 rw [bV (k := fun v => qW (E.ty s) (E.ty t) (aQ f x) v) (fun v => Iff.rfl)]
theorem EM {i : Nat} {x : Operand} : aL E ops (⟨d, .extract x i, ty, pos, af, none⟩ :: os) K ⟨f, rows, clk⟩ = aU (fun v => K6 i (aQ f x) v) fun v => aL E ops os K ⟨put f d v, rows, clk⟩ := by
 simp only [aL, dQ, ys, yv]
 rw [bV (k := fun v => K6 i (aQ f x) v) (fun v => Iff.rfl)]
theorem S3 {t : TypeId} {x : Operand} : aL E ops (⟨d, .load t x, ty, pos, af, none⟩ :: os) K ⟨f, rows, clk⟩ = aU (fun v => qU E t rows (aQ f x) v) fun v => aL E ops os K ⟨put f d v, rows, clk⟩ := by
 simp only [aL, dQ, ys, yv]
 rw [bV (fun v => Iff.rfl)]
theorem L7 {t : TypeId} {i : Nat} {x : Operand} : aL E ops (⟨d, .field t x i, ty, pos, af, none⟩ :: os) K ⟨f, rows, clk⟩ = aU (fun v => rI E t i (aQ f x) v) fun v => aL E ops os K ⟨put f d v, rows, clk⟩ := by
 simp only [aL, dQ, ys, yv]
 rw [bV (fun v => Iff.rfl)]
theorem yZ {t : TypeId} {i : Nat} {x : Operand} : aL E ops (⟨d, .fieldAddr t x i, ty, pos, af, none⟩ :: os) K ⟨f, rows, clk⟩ = aU (fun v => eF E t rows i (aQ f x) v) fun v => aL E ops os K ⟨put f d v, rows, clk⟩ := by
 simp only [aL, dQ, ys, yv]
 rw [bV (fun v => Iff.rfl)]
theorem y3 {t : TypeId} {x y : Operand} : aL E ops (⟨d, .indexAddr t x y, ty, pos, af, none⟩ :: os) K ⟨f, rows, clk⟩ = aU (fun v => eG E t rows (aQ f x) (aQ f y) v) fun v => aL E ops os K ⟨put f d v, rows, clk⟩ := by
 simp only [aL, dQ, ys, yv]
 rw [bV (fun v => Iff.rfl)]
theorem L8 {t : TypeId} {x : Operand} {lo hi mx : Option Operand} : aL E ops (⟨d, .slice t x lo hi mx, ty, pos, af, none⟩ :: os) K ⟨f, rows, clk⟩ = aU (fun v => mE E t rows (aQ f x) (lo.map (aQ f)) (hi.map (aQ f)) (mx.map (aQ f)) v) fun v => aL E ops os K ⟨put f d v, rows, clk⟩ := by
 simp only [aL, dQ, ys, yv]
 rw [bV (fun v => Iff.rfl)]
theorem L9 {t : TypeId} {parts : Array (Nat × Operand)} : aL E ops (⟨d, .build t parts, ty, pos, af, none⟩ :: os) K ⟨f, rows, clk⟩ = aU (fun v => oR (E.ty t) (parts.toList.map fun x => (x.1, aQ f x.2)) v) fun v => aL E ops os K ⟨put f d v, rows, clk⟩ := by
 simp only [aL, dQ, ys, yv]
 rw [bV (k := fun v => oR (E.ty t) (parts.toList.map fun x => (x.1, aQ f x.2)) v) (fun v => Iff.rfl)]
theorem MA {t : TypeId} {x y : Operand} : aL E ops (⟨d, .index t x y, ty, pos, af, none⟩ :: os) K ⟨f, rows, clk⟩ = aU (fun v => rJ (E.ty t) (aQ f x) (aQ f y) v) fun v => aL E ops os K ⟨put f d v, rows, clk⟩ := by
 simp only [aL, dQ, ys, yv]
 rw [bV (k := fun v => rJ (E.ty t) (aQ f x) (aQ f y) v) (fun v => Iff.rfl)]
theorem XH {t : TypeId} {x : Operand} : aL E ops (⟨d, .call { callee := .builtin .len, args := ⟨[x]⟩, argTypes := ⟨[t]⟩ }, ty, pos, af, none⟩ :: os) K ⟨f, rows, clk⟩ = aU (fun v => vH (E.ty t) rows (aQ f x) v) fun v => aL E ops os K ⟨put f d v, rows, clk⟩ := by
 simp only [aL, dQ, ys, yv]
 rw [bV (k := fun v => vH (E.ty t) rows (aQ f x) v) (fun v => Iff.rfl)]
theorem BK {x : Operand} : aL E ops (⟨d, .nilCheck x, ty, pos, af, none⟩ :: os) K ⟨f, rows, clk⟩ = aU (fun v => BD rows (aQ f x) v) fun v => aL E ops os K ⟨put f d v, rows, clk⟩ := by
 simp only [aL, dQ, ys, yv]
 rw [bV (k := fun v => BD rows (aQ f x) v) (fun v => Iff.rfl)]
theorem XI {ts : Array TypeId} {x y : Operand} : aL E ops (⟨d, .call { callee := .builtin .max, args := ⟨[x, y]⟩, argTypes := ts }, ty, pos, af, none⟩ :: os) K ⟨f, rows, clk⟩ = aU (fun v => K8 (aQ f x) (aQ f y) v) fun v => aL E ops os K ⟨put f d v, rows, clk⟩ := by
 simp only [aL, dQ, ys, yv]
 rw [bV (fun v => Iff.rfl)]
theorem XJ {ts : Array TypeId} {x y : Operand} : aL E ops (⟨d, .call { callee := .builtin .min, args := ⟨[x, y]⟩, argTypes := ts }, ty, pos, af, none⟩ :: os) K ⟨f, rows, clk⟩ = aU (fun v => K9 (aQ f x) (aQ f y) v) fun v => aL E ops os K ⟨put f d v, rows, clk⟩ := by
 simp only [aL, dQ, ys, yv]
 rw [bV (fun v => Iff.rfl)]
theorem w6 {t : TypeId} {len : Nat} {parts : Array (Nat × Operand)} : aL E ops (⟨d, .buildSlice t len parts, ty, pos, af, none⟩ :: os) K ⟨f, rows, clk⟩ = aU (fun v => LN (E.ty t) rows len (parts.toList.map fun x => (x.1, aQ f x.2)) v) fun v => aL E ops os K ⟨put f d v, rows, clk⟩ := by
 simp only [aL, dQ, ys]
 rw [bV (fun v => Iff.rfl)]
theorem MB {t : TypeId} {p x : Operand} : aL E ops (⟨none, .store t p x, ty, pos, af, none⟩ :: os) K ⟨f, rows, clk⟩ = ∃ id r, oV E t rows (aQ f p) (aQ f x) .undef (some (id, r)) ∧ aL E ops os K ⟨f, dC rows id (some r), clk⟩ := by
 simp only [aL, dQ, ys]
 apply propext
 constructor
 ·rintro ⟨v, u, h, h2⟩
  have h' := h
  obtain ⟨_, rfl, h3⟩ := h
  split at h3
  ·obtain ⟨_, _, _, _, _, _, _, _, _, _, rfl⟩ := h3
   exact ⟨_, _, h', h2⟩
  ·exact h3.elim
 ·rintro ⟨id, r, h, h2⟩; exact ⟨.undef, some (id, r), h, h2⟩
theorem MC {t : TypeId} : aL E ops (⟨d, .alloc t, ty, pos, af, none⟩ :: os) K ⟨f, rows, clk⟩ = aH ((E.ty t).known = true) (aL E ops os K ⟨put f d (.ptr (d.getD 0) clk 0 0), dC rows (d.getD 0) (some ⟨clk, t, (E.ty t).size, [(E.ty t).zero]⟩), clk + 1⟩) := rfl
theorem XK {t : TypeId} {x : Operand} : aL E ops (⟨d, .box t x, ty, pos, af, none⟩ :: os) K ⟨f, rows, clk⟩ = aH ((E.ty t).known = true) (∃ l, bO (aQ f x) = some l ∧ (∀ q ∈ l, gS rows q) ∧ l.length = (E.ty t).size ∧ aL E ops os K ⟨put f d (.ptr (d.getD 0) clk 0 0), dC rows (d.getD 0) (some ⟨clk, t, (E.ty t).size, [l]⟩), clk + 1⟩) := rfl
def o0 (t : TI) (x y : PV) (K : TypeId → Nat → List PV → Int → Prop) : Prop :=
 match t, x, y with
 | .slice e n b z, .int _ x, .int _ y => aH (0 ≤ x ∧ x ≤ y ∧ y.toNat ≤ room ∧ y.toNat * b ≤ room) (K e n z x)
 | _, _, _ => False
theorem y4 {t : TypeId} {l c : Operand} : aL E ops (⟨d, .makeSlice t l c, ty, pos, af, none⟩ :: os) K ⟨f, rows, clk⟩ = o0 (E.ty t) (aQ f l) (aQ f c) fun e n z x => aL E ops os K ⟨put f d (.own (d.getD 0) clk 0 x.toNat), dC rows (d.getD 0) (some ⟨clk, e, n, List.replicate x.toNat z⟩), clk + 1⟩ := by
 simp only [aL, dQ, o0, EE]
 generalize E.ty t = T
 generalize aQ f l = A
 generalize aQ f c = B
 cases T with
 | slice e n b z =>
  cases A with
  | int k x =>
   cases B with
   | int k2 y => simp only [aH, and_assoc]
   | _ => rfl
  | _ => rfl
 | _ => rfl
def S4 (t : TI) (rows : Rows) (x y : PV) (clk d : Nat) (K : PV → Rows → Nat → Prop) : Prop :=
 match t with
 | .slice e n b _ =>
  ∃ l, sP rows y l ∧ (∀ e ∈ l, e.length = n) ∧
  match x with
  | .nil => aH (l.length ≤ room ∧ l.length * b ≤ room) (K (.own d clk 0 l.length) (dC rows d (some ⟨clk, e, n, l⟩)) (clk + 1))
  | .own id ver off len => ∃ r, rows id = some r ∧ r.ver = ver ∧ off = 0 ∧ len = r.els.length ∧ r.e = e ∧ r.size = n ∧ aH (len + l.length ≤ room ∧ (len + l.length) * b ≤ room) (K (.own id clk 0 (len + l.length)) (dC rows id (some ⟨clk, e, n, r.els ++ l⟩)) (clk + 1))
  | .iV l0 => (∀ e ∈ l0, e.length = n) ∧ (∀ e ∈ l, ∀ p ∈ e, bW p = true) ∧ aH (l0.length + l.length ≤ room ∧ (l0.length + l.length) * b ≤ room) (K (.sl (l0 ++ l)) rows clk)
  | _ => False
 | _ => False
theorem HF {t t2 : TypeId} {x y : Operand} : aL E ops (⟨d, .call { callee := .builtin .append, args := ⟨[x, y]⟩, argTypes := ⟨[t, t2]⟩ }, ty, pos, af, none⟩ :: os) K ⟨f, rows, clk⟩ =
  aH (t2 = t ∨ WG (E.ty t2) = true) (S4 (E.ty t) rows (aQ f x) (aQ f y) clk (d.getD 0) fun v rows clk => aL E ops os K ⟨put f d v, rows, clk⟩) := by
 simp only [aL, dQ, EF, S4, EE, aH, PS.put]
 congr 1
 generalize E.ty t = T
 generalize aQ f x = A
 cases T with
 | slice e n b z =>
  simp only
  congr 1
  funext l
  congr 2
  cases A with
  | nil => simp only [and_assoc]
  | own id ver off len => simp only [and_assoc]
  | iV l0 => simp only [and_assoc]
  | _ => rfl
 | _ => rfl
end
def sU (P : Program) (g : FuncId) (args : List PV) (K : PV → Prop) : Prop := ∃ v, aK P g args v ∧ K v
@[congr] theorem afa {P : Program} {g : FuncId} {args HG : List PV} {K : PV → Prop} (h : args = HG) : sU P g args K = sU P g HG K := by rw [h]
def o6 (E : Env) (p : PV) (fG : List PV) (rows : Rows) (clk : Nat) (K : PV → Rows → Nat → Prop) : Prop :=
 match p with
 | .fn g bQ => if E.writes g = true then bQ = [] ∧ vN E.P g fG rows clk K else aH ((fG.map (pz rows)).all eW = true ∧ dI rows (fG.flatMap dA)) (sU E.P g (fG.map (pz rows) ++ bQ) fun v => K v (CE rows (fG.flatMap dA)) clk)
 | _ => False
@[congr] theorem acu {E : Env} {p p' : PV} {fG vV : List PV} {rows rows' : Rows} {clk jM : Nat} {K : PV → Rows → Nat → Prop} (h1 : p = p') (h2 : fG = vV) (h3 : rows = rows') (h4 : clk = jM) : o6 E p fG rows clk K = o6 E p' vV rows' jM K := by rw [h1, h2, h3, h4]
@[congr] theorem afb {P : Program} {g : FuncId} {fG vV : List PV} {rows : Rows} {clk : Nat} {K : PV → Rows → Nat → Prop} (h : fG = vV) : vN P g fG rows clk K = vN P g vV rows clk K := by rw [h]
@[congr] theorem afc {t t' : TI} {x x' y y' : PV} {K : TypeId → Nat → List PV → Int → Prop} (h1 : t = t') (h2 : x = x') (h3 : y = y') : o0 t x y K = o0 t' x' y' K := by rw [h1, h2, h3]
@[congr] theorem ahv {t t' : TI} {rows rows' : Rows} {x x' y y' : PV} {clk jM d d' : Nat} {K : PV → Rows → Nat → Prop} (h1 : t = t') (h2 : rows = rows') (h3 : x = x') (h4 : y = y') (h5 : clk = jM) (h6 : d = d') :
  S4 t rows x y clk d K = S4 t' rows' x' y' jM d' K := by rw [h1, h2, h3, h4, h5, h6]
section
variable {E : Env} {ops os : List Oper} {K : PS → Prop} {f : Nat → PV} {rows : Rows} {clk : Nat} {d : Option Tmp} {ty : TypeId} {pos : String} {af : Array Edge}
theorem S5 {fo : Operand} {args : Array Operand} {ts : Array TypeId} : aL E ops (⟨d, .call { callee := .value fo, args := args, argTypes := ts }, ty, pos, af, none⟩ :: os) K ⟨f, rows, clk⟩ =
  o6 E (aQ f fo) (args.toList.map (aQ f)) rows clk fun v rows clk => aL E ops os K ⟨put f d v, rows, clk⟩ := by
 simp only [aL, dQ, vO, o6, LO, aH, sU]
 generalize aQ f fo = A
 have e1 : (args.toList.map fun x => pz rows (aQ f x)) = (args.toList.map (aQ f)).map (pz rows) := by rw [List.map_map]; rfl
 have e2 : (args.toList.flatMap fun x => dA (aQ f x)) = (args.toList.map (aQ f)).flatMap dA := by rw [List.flatMap_map]
 rw [e1, e2]
 cases A with
 | fn g bQ =>
  have hm : ag3 E (.fn g bQ) = E.writes g := rfl
  by_cases hw : E.writes g = true
  ·rw [hm, if_pos hw]
   cases bQ with
   | nil => simp [hw]
   | cons x l => simp [hw]
  rw [hm, if_neg hw]
  simp only [if_neg hw]
  apply propext
  constructor
  ·rintro ⟨v, ⟨h1, h2⟩, h3, h4⟩; exact ⟨⟨h1, h3⟩, v, h2, h4⟩
  ·rintro ⟨⟨h1, h3⟩, v, h2, h4⟩; exact ⟨v, ⟨h1, h2⟩, h3, h4⟩
 | _ => simp [ag3]
theorem BL {g : FuncId} {bQ : Array Operand} : aL E ops (⟨d, .makeFunc (.func g) ⟨[]⟩ bQ, ty, pos, af, none⟩ :: os) K ⟨f, rows, clk⟩ =
  aH (((bQ.toList.map (aQ f)).map (pz rows)).all eW = true ∧ dI rows ((bQ.toList.map (aQ f)).flatMap dA))
   (aL E ops os K ⟨put f d (.fn g ((bQ.toList.map (aQ f)).map (pz rows))), CE rows ((bQ.toList.map (aQ f)).flatMap dA), clk⟩) := by
 simp only [aL, dQ, aH, and_assoc]
 have e1 : (bQ.toList.map fun x => pz rows (aQ f x)) = (bQ.toList.map (aQ f)).map (pz rows) := by rw [List.map_map]; rfl
 have e2 : (bQ.toList.flatMap fun x => dA (aQ f x)) = (bQ.toList.map (aQ f)).flatMap dA := by rw [List.flatMap_map]
 rw [e1, e2]
def j2 (k : Nat) (l : List Nat) (t : Nat → Nat → Prop) : Nat → Nat → Prop := fun k' id => (true = true ∧ k' = k ∧ id ∈ l) ∨ t k' id
def nN (k id : Nat) (w : Nat → Nat → Prop) : Nat → Nat → Prop := fun k' iS => (k' = k ∧ iS = id) ∨ w k' iS
variable {k : Nat} {bK : Nat → Nat → Prop} {aO : Nat → Nat → Prop}
theorem MD {op : Op} {j : Nat} {want : Bool} : aN E ops clk k (⟨d, op, ty, pos, af, some (j, want)⟩ :: os) K ⟨f, rows, bK, aO⟩ =
  match (ops[j]?).bind (·.dst) with
  | none => False
  | some e => stepG (f e) want (aN E ops clk k (⟨d, op, ty, pos, af, none⟩ :: os) K ⟨f, rows, bK, aO⟩) (aN E ops clk (k + 1) os K ⟨put f d (.eA []), rows, bK, aO⟩) := by
 have e3 : app k ⟨d, op, ty, pos, af, some (j, want)⟩ false (.eA []) none ⟨f, rows, bK, aO⟩ = ⟨put f d (.eA []), rows, bK, aO⟩ := by simp [app, fC, wlU]
 simp only [aN, e3]
 cases hx : (ops[j]?).bind (·.dst) with
 | none => rfl
 | some e => rfl
theorem cE {o : Oper} {R : PV → Prop} {kk : PV → Prop} {st : ST} (h : ∀ v, R v ↔ kk v) : (∃ v u, (R v ∧ u = none) ∧ SO .any ops k u bK ∧ aN E ops clk (k + 1) os K (app k o true v u st)) = aU kk fun v => aN E ops clk (k + 1) os K (app k o true v none st) := by
 apply propext; simp only [aU]
 constructor
 ·rintro ⟨v, u, ⟨h1, rfl⟩, _, h2⟩; exact ⟨v, (h v).1 h1, h2⟩
 ·rintro ⟨v, h1, h2⟩; exact ⟨v, none, ⟨(h v).2 h1, rfl⟩, trivial, h2⟩
theorem eB {op : Op} {v : PV} (h : gM op (aQ f) = []) : app k ⟨d, op, ty, pos, af, none⟩ true v none ⟨f, rows, bK, aO⟩ = ⟨put f d v, rows, bK, aO⟩ := by simp [app, fC, wlU, h]
theorem p6 {op : Op} {v : PV} {l : List Nat} (h : gM op (aQ f) = l) : app k ⟨d, op, ty, pos, af, none⟩ true v none ⟨f, rows, bK, aO⟩ = ⟨put f d v, rows, j2 k l bK, aO⟩ := by subst h; rfl
theorem S6 {x : Operand} : aN E ops clk k (⟨d, .move x, ty, pos, af, none⟩ :: os) K ⟨f, rows, bK, aO⟩ = aN E ops clk (k + 1) os K ⟨put f d (aQ f x), rows, bK, aO⟩ := by
 simp only [aN, yn, gN, ys, yv]
 rw [cE (kk := fun v => v = aQ f x) (fun v => Iff.rfl), iZ, eB rfl]
theorem HH {x : Operand} : aN E ops clk k (⟨d, .assign x, ty, pos, af, none⟩ :: os) K ⟨f, rows, bK, aO⟩ = aN E ops clk (k + 1) os K ⟨put f d (aQ f x), rows, bK, aO⟩ := by
 simp only [aN, yn, gN, ys, yv]
 rw [cE (kk := fun v => v = aQ f x) (fun v => Iff.rfl), iZ, eB rfl]
theorem S7 {c a b : Operand} : aN E ops clk k (⟨d, .pick c a b, ty, pos, af, none⟩ :: os) K ⟨f, rows, bK, aO⟩ = gJ (aQ f c) true (aN E ops clk (k + 1) os K ⟨put f d (aQ f a), rows, bK, aO⟩) (aN E ops clk (k + 1) os K ⟨put f d (aQ f b), rows, bK, aO⟩) := by
 simp only [aN, yn, gN, ys, yv]
 rw [cE (fun v => Iff.rfl)]
 apply propext; simp only [aU, gJ, eB (op := .pick c a b) rfl]
 constructor
 ·rintro ⟨v, ⟨t, h1, rfl⟩, h2⟩
  refine ⟨t, h1, fun h => ?_, fun h => ?_⟩
  ·subst h; exact h2
  ·subst h; exact h2
 ·rintro ⟨t, h1, h2, h3⟩
  cases t with
  | true => exact ⟨_, ⟨true, h1, rfl⟩, h2 rfl⟩
  | false => exact ⟨_, ⟨false, h1, rfl⟩, h3 rfl⟩
theorem XL {op : BinOp} {t t2 : TypeId} {x y : Operand} : aN E ops clk k (⟨d, .binOp op t x y t2, ty, pos, af, none⟩ :: os) K ⟨f, rows, bK, aO⟩ = aU (fun v => D4 E op t (aQ f x) (aQ f y) v) fun v => aN E ops clk (k + 1) os K ⟨put f d v, rows, bK, aO⟩ := by
 simp only [aN, yn, gN, ys, yv]; rw [cE (fun v => Iff.rfl)]; simp only [eB (op := .binOp op t x y t2) rfl]
theorem acv {op : UnOp} {t : TypeId} {x : Operand} : aN E ops clk k (⟨d, .unOp op t x, ty, pos, af, none⟩ :: os) K ⟨f, rows, bK, aO⟩ = aU (fun v => yun op (aQ f x) v) fun v => aN E ops clk (k + 1) os K ⟨put f d v, rows, bK, aO⟩ := by
 simp only [aN, yn, gN, ys, yv]; rw [cE (fun v => Iff.rfl)]; simp only [eB (op := .unOp op t x) rfl]
theorem S8 {s t : TypeId} {x : Operand} : aN E ops clk k (⟨d, .convert s t x, ty, pos, af, none⟩ :: os) K ⟨f, rows, bK, aO⟩ = aU (fun v => qW (E.ty s) (E.ty t) (aQ f x) v) fun v => aN E ops clk (k + 1) os K ⟨put f d v, rows, bK, aO⟩ := by
 simp only [aN, yn, gN, ys, yv]; rw [cE (fun v => Iff.rfl)]; simp only [eB (op := .convert s t x) rfl]
theorem EN {i : Nat} {x : Operand} : aN E ops clk k (⟨d, .extract x i, ty, pos, af, none⟩ :: os) K ⟨f, rows, bK, aO⟩ = aU (fun v => K6 i (aQ f x) v) fun v => aN E ops clk (k + 1) os K ⟨put f d v, rows, bK, aO⟩ := by
 simp only [aN, yn, gN, ys, yv]; rw [cE (fun v => Iff.rfl)]; simp only [eB (op := .extract x i) rfl]
theorem S9 {t : TypeId} {x : Operand} : aN E ops clk k (⟨d, .load t x, ty, pos, af, none⟩ :: os) K ⟨f, rows, bK, aO⟩ = aU (fun v => qU E t (dJ .any ops k aO rows) (aQ f x) v) fun v => aN E ops clk (k + 1) os K ⟨put f d v, rows, j2 k (aZ (aQ f x)) bK, aO⟩ := by
 simp only [aN, yn, gN, ys, yv]; rw [cE (fun v => Iff.rfl)]; simp only [p6 (op := .load t x) rfl]; rfl
theorem ME {t : TypeId} {i : Nat} {x : Operand} : aN E ops clk k (⟨d, .field t x i, ty, pos, af, none⟩ :: os) K ⟨f, rows, bK, aO⟩ = aU (fun v => rI E t i (aQ f x) v) fun v => aN E ops clk (k + 1) os K ⟨put f d v, rows, bK, aO⟩ := by
 simp only [aN, yn, gN, ys, yv]; rw [cE (fun v => Iff.rfl)]; simp only [eB (op := .field t x i) rfl]
theorem y5 {t : TypeId} {i : Nat} {x : Operand} : aN E ops clk k (⟨d, .fieldAddr t x i, ty, pos, af, none⟩ :: os) K ⟨f, rows, bK, aO⟩ = aU (fun v => eF E t (dJ .any ops k aO rows) i (aQ f x) v) fun v => aN E ops clk (k + 1) os K ⟨put f d v, rows, j2 k (aZ (aQ f x)) bK, aO⟩ := by
 simp only [aN, yn, gN, ys, yv]; rw [cE (fun v => Iff.rfl)]; simp only [p6 (op := .fieldAddr t x i) rfl]; rfl
theorem y6 {t : TypeId} {x y : Operand} : aN E ops clk k (⟨d, .indexAddr t x y, ty, pos, af, none⟩ :: os) K ⟨f, rows, bK, aO⟩ = aU (fun v => eG E t (dJ .any ops k aO rows) (aQ f x) (aQ f y) v) fun v => aN E ops clk (k + 1) os K ⟨put f d v, rows, j2 k (aZ (aQ f x)) bK, aO⟩ := by
 simp only [aN, yn, gN, ys, yv]; rw [cE (fun v => Iff.rfl)]; simp only [p6 (op := .indexAddr t x y) rfl]; rfl
theorem MF {t : TypeId} {x : Operand} {lo hi mx : Option Operand} : aN E ops clk k (⟨d, .slice t x lo hi mx, ty, pos, af, none⟩ :: os) K ⟨f, rows, bK, aO⟩ = aU (fun v => mE E t (dJ .any ops k aO rows) (aQ f x) (lo.map (aQ f)) (hi.map (aQ f)) (mx.map (aQ f)) v) fun v => aN E ops clk (k + 1) os K ⟨put f d v, rows, j2 k (aZ (aQ f x)) bK, aO⟩ := by
 simp only [aN, yn, gN, ys, yv]; rw [cE (fun v => Iff.rfl)]; simp only [p6 (op := .slice t x lo hi mx) rfl]; rfl
theorem MG {t : TypeId} {parts : Array (Nat × Operand)} : aN E ops clk k (⟨d, .build t parts, ty, pos, af, none⟩ :: os) K ⟨f, rows, bK, aO⟩ = aU (fun v => oR (E.ty t) (parts.toList.map fun x => (x.1, aQ f x.2)) v) fun v => aN E ops clk (k + 1) os K ⟨put f d v, rows, bK, aO⟩ := by
 simp only [aN, yn, gN, ys, yv]; rw [cE (fun v => Iff.rfl)]; simp only [eB (op := .build t parts) rfl]
theorem XM {t : TypeId} {x : Operand} : aN E ops clk k (⟨d, .call { callee := .builtin .len, args := ⟨[x]⟩, argTypes := ⟨[t]⟩ }, ty, pos, af, none⟩ :: os) K ⟨f, rows, bK, aO⟩ = aU (fun v => vH (E.ty t) (dJ .any ops k aO rows) (aQ f x) v) fun v => aN E ops clk (k + 1) os K ⟨put f d v, rows, j2 k (aZ (aQ f x)) bK, aO⟩ := by
 simp only [aN, yn, gN, ys, yv]; rw [cE (fun v => Iff.rfl)]; simp only [p6 (op := .call { callee := .builtin .len, args := ⟨[x]⟩, argTypes := ⟨[t]⟩ }) rfl]; rfl
theorem BM {x : Operand} : aN E ops clk k (⟨d, .nilCheck x, ty, pos, af, none⟩ :: os) K ⟨f, rows, bK, aO⟩ = aU (fun v => BD (dJ .any ops k aO rows) (aQ f x) v) fun v => aN E ops clk (k + 1) os K ⟨put f d v, rows, j2 k (aZ (aQ f x)) bK, aO⟩ := by
 simp only [aN, yn, gN, ys, yv]; rw [cE (fun v => Iff.rfl)]; simp only [p6 (op := .nilCheck x) rfl]; rfl
theorem XN {ts : Array TypeId} {x y : Operand} : aN E ops clk k (⟨d, .call { callee := .builtin .max, args := ⟨[x, y]⟩, argTypes := ts }, ty, pos, af, none⟩ :: os) K ⟨f, rows, bK, aO⟩ = aU (fun v => K8 (aQ f x) (aQ f y) v) fun v => aN E ops clk (k + 1) os K ⟨put f d v, rows, bK, aO⟩ := by
 simp only [aN, yn, gN, ys, yv]; rw [cE (fun v => Iff.rfl)]; simp only [eB (op := .call { callee := .builtin .max, args := ⟨[x, y]⟩, argTypes := ts }) rfl]
theorem XO {ts : Array TypeId} {x y : Operand} : aN E ops clk k (⟨d, .call { callee := .builtin .min, args := ⟨[x, y]⟩, argTypes := ts }, ty, pos, af, none⟩ :: os) K ⟨f, rows, bK, aO⟩ = aU (fun v => K9 (aQ f x) (aQ f y) v) fun v => aN E ops clk (k + 1) os K ⟨put f d v, rows, bK, aO⟩ := by
 simp only [aN, yn, gN, ys, yv]; rw [cE (fun v => Iff.rfl)]; simp only [eB (op := .call { callee := .builtin .min, args := ⟨[x, y]⟩, argTypes := ts }) rfl]
theorem BN {g : FuncId} {bQ : Array Operand} : aN E ops clk k (⟨d, .makeFunc (.func g) ⟨[]⟩ bQ, ty, pos, af, none⟩ :: os) K ⟨f, rows, bK, aO⟩ = aH ((bQ.toList.map fun x => aQ f x).all eW = true) (aN E ops clk (k + 1) os K ⟨put f d (.fn g (bQ.toList.map fun x => aQ f x)), rows, bK, aO⟩) := by
 simp only [aN, yn, gN, ys, yv]
 rw [cE (fun v => Iff.rfl), iK, iZ]; simp only [eB (op := .makeFunc (.func g) ⟨[]⟩ bQ) rfl]
theorem w7 {t : TypeId} {len : Nat} {parts : Array (Nat × Operand)} : aN E ops clk k (⟨d, .buildSlice t len parts, ty, pos, af, none⟩ :: os) K ⟨f, rows, bK, aO⟩ = aU (fun v => LN (E.ty t) (dJ .any ops k aO rows) len (parts.toList.map fun x => (x.1, aQ f x.2)) v) fun v => aN E ops clk (k + 1) os K ⟨put f d v, rows, bK, aO⟩ := by
 simp only [aN, yn, gN, ys]; rw [cE (fun v => Iff.rfl)]; simp only [eB (op := .buildSlice t len parts) rfl]
theorem MH {t : TypeId} {p x : Operand} : aN E ops clk k (⟨none, .store t p x, ty, pos, af, none⟩ :: os) K ⟨f, rows, bK, aO⟩ =
  ∃ id r, oV E t (dJ .any ops k aO rows) (aQ f p) (aQ f x) .undef (some (id, r)) ∧ yS .any ops k id bK ∧ aN E ops clk (k + 1) os K ⟨f, dC rows id (some r), j2 k (aZ (aQ f p) ++ ((bO (aQ f x)).getD []).flatMap aZ) bK, nN k id aO⟩ := by
 simp only [aN, yn, gN, ys]
 apply propext
 constructor
 ·rintro ⟨v, u, h, h1, h2⟩
  have h' := h
  obtain ⟨_, rfl, h3⟩ := h
  split at h3
  ·obtain ⟨_, _, _, _, _, _, _, _, _, _, rfl⟩ := h3
   exact ⟨_, _, h', h1, h2⟩
  ·exact h3.elim
 ·rintro ⟨id, r, h, h1, h2⟩; exact ⟨.undef, some (id, r), h, h1, h2⟩
theorem XP {o : Oper} {R : PV → Option (Nat × Row) → Prop} {C : Prop} {v0 : PV} {e : Nat} {r0 : Row} {st : ST} {jM : Nat} (h : ∀ v u, R v u ↔ (C ∧ v = v0 ∧ u = some (e, r0))) : (∃ v u, R v u ∧ SO .any ops k u bK ∧ aN E ops jM (k + 1) os K (app k o true v u st)) = aH (C ∧ yS .any ops k e bK) (aN E ops jM (k + 1) os K (app k o true v0 (some (e, r0)) st)) := by
 apply propext; simp only [aH]
 constructor
 ·rintro ⟨v, u, h1, h2, h3⟩
  obtain ⟨hc, rfl, rfl⟩ := (h v u).1 h1
  exact ⟨⟨hc, h2⟩, h3⟩
 ·rintro ⟨⟨h1, h2⟩, h3⟩; exact ⟨v0, _, (h _ _).2 ⟨h1, rfl, rfl⟩, h2, h3⟩
theorem sV {op : Op} {v : PV} {e : Nat} {r0 : Row} (h : gM op (aQ f) = []) : app k ⟨d, op, ty, pos, af, none⟩ true v (some (e, r0)) ⟨f, rows, bK, aO⟩ = ⟨put f d v, dC rows e (some r0), bK, nN k e aO⟩ := by simp only [app, fC, wlU, h, List.not_mem_nil, and_false, false_or]; rfl
theorem MI {t : TypeId} : aN E ops clk k (⟨d, .alloc t, ty, pos, af, none⟩ :: os) K ⟨f, rows, bK, aO⟩ = aH ((E.ty t).known = true ∧ yS .any ops k (d.getD 0) bK) (aN E ops (clk + 1) (k + 1) os K ⟨put f d (.ptr (d.getD 0) clk 0 0), dC rows (d.getD 0) (some ⟨clk, t, (E.ty t).size, [(E.ty t).zero]⟩), bK, nN k (d.getD 0) aO⟩) := by
 simp only [aN, yn, gN]
 rw [XP (C := (E.ty t).known = true) (v0 := .ptr (d.getD 0) clk 0 0) (e := d.getD 0) (r0 := ⟨clk, t, (E.ty t).size, [(E.ty t).zero]⟩) (fun v u => by simp), sV (op := .alloc t) rfl]
theorem XQ {t : TypeId} {x : Operand} : aN E ops clk k (⟨d, .box t x, ty, pos, af, none⟩ :: os) K ⟨f, rows, bK, aO⟩ = aH ((E.ty t).known = true) (∃ l, bO (aQ f x) = some l ∧ ((∀ q ∈ l, gS (fun _ => none) q) ∧ l.length = (E.ty t).size ∧ yS .any ops k (d.getD 0) bK) ∧
  aN E ops (clk + 1) (k + 1) os K ⟨put f d (.ptr (d.getD 0) clk 0 0), dC rows (d.getD 0) (some ⟨clk, t, (E.ty t).size, [l]⟩), bK, nN k (d.getD 0) aO⟩) := by
 simp only [aN, yn, gN]
 apply propext
 constructor
 ·rintro ⟨v, u, ⟨h1, l, h2, h3, h4, rfl, rfl⟩, h5, h6⟩
  rw [sV (op := .box t x) rfl] at h6
  exact ⟨h1, l, h2, ⟨h3, h4, h5⟩, h6⟩
 ·rintro ⟨h1, l, h2, ⟨h3, h4, h5⟩, h6⟩
  refine ⟨_, _, ⟨h1, l, h2, h3, h4, rfl, rfl⟩, h5, ?_⟩
  rw [sV (op := .box t x) rfl]; exact h6
theorem y7 {t : TypeId} {l c : Operand} : aN E ops clk k (⟨d, .makeSlice t l c, ty, pos, af, none⟩ :: os) K ⟨f, rows, bK, aO⟩ = o0 (E.ty t) (aQ f l) (aQ f c) fun e n z x => aH (yS .any ops k (d.getD 0) bK) (aN E ops (clk + 1) (k + 1) os K ⟨put f d (.own (d.getD 0) clk 0 x.toNat), dC rows (d.getD 0) (some ⟨clk, e, n, List.replicate x.toNat z⟩), bK, nN k (d.getD 0) aO⟩) := by
 have V8 : ∀ {v e' r0}, app k ⟨d, .makeSlice t l c, ty, pos, af, none⟩ true v (some (e', r0)) ⟨f, rows, bK, aO⟩ = ⟨put f d v, dC rows e' (some r0), bK, nN k e' aO⟩ := sV rfl
 simp only [aN, yn, gN, o0]
 generalize E.ty t = T
 generalize aQ f l = A
 generalize aQ f c = B
 cases T with
 | slice e n b z =>
  cases A with
  | int k1 x =>
   cases B with
   | int k2 y =>
    apply propext
    simp only [aH]
    constructor
    ·rintro ⟨v, u, ⟨h1, h2, h3, h4, rfl, rfl⟩, h5, h6⟩
     rw [V8] at h6
     exact ⟨⟨h1, h2, h3, h4⟩, h5, h6⟩
    ·rintro ⟨⟨h1, h2, h3, h4⟩, h5, h6⟩
     refine ⟨_, _, ⟨h1, h2, h3, h4, rfl, rfl⟩, h5, ?_⟩
     rw [V8]; exact h6
   | _ => simp
  | _ => simp
 | _ => simp
theorem HI {t t2 : TypeId} {x y : Operand} : aN E ops clk k (⟨d, .call { callee := .builtin .append, args := ⟨[x, y]⟩, argTypes := ⟨[t, t2]⟩ }, ty, pos, af, none⟩ :: os) K ⟨f, rows, bK, aO⟩ =
  aH (t2 = t ∨ WG (E.ty t2) = true) (∃ v id r, oY (E.ty t) (dJ .any ops k aO rows) (aQ f x) (aQ f y) clk (d.getD 0) v (some (id, r)) ∧ yS .any ops k id bK ∧
   aN E ops (clk + 1) (k + 1) os K ⟨put f d v, dC rows id (some r), j2 k (aZ (aQ f x) ++ aZ (aQ f y)) bK, nN k id aO⟩) := by
 have V8 : ∀ {v e' r0}, app k ⟨d, .call { callee := .builtin .append, args := ⟨[x, y]⟩, argTypes := ⟨[t, t2]⟩ }, ty, pos, af, none⟩ true v (some (e', r0)) ⟨f, rows, bK, aO⟩ = ⟨put f d v, dC rows e' (some r0), j2 k (aZ (aQ f x) ++ aZ (aQ f y)) bK, nN k e' aO⟩ := rfl
 simp only [aN, yn, gN, aH]
 apply propext
 constructor
 ·rintro ⟨v, u, ⟨h1, h2⟩, h3, h4⟩
  refine ⟨h1, ?_⟩
  have h2' := h2
  unfold oY at h2'
  split at h2'
  ·obtain ⟨l, g1, g2, g3⟩ := h2'
   split at g3
   ·obtain ⟨_, _, rfl, rfl⟩ := g3
    exact ⟨_, _, _, h2, h3, h4⟩
   ·obtain ⟨r, _, _, _, _, _, _, _, _, rfl, rfl⟩ := g3
    exact ⟨_, _, _, h2, h3, h4⟩
   ·exact g3.elim
  ·exact h2'.elim
 ·rintro ⟨h1, v, id, r, h2, h3, h4⟩
  exact ⟨v, _, ⟨h1, h2⟩, h3, h4⟩
def nO (E : Env) (p : PV) (fG : List PV) (rows : Rows) (K : PV → Prop) : Prop :=
 match p with
 | .fn g bQ => aH ((fG.map (pz rows)).all eW = true ∧ fG.flatMap dA = []) (sU E.P g (fG.map (pz rows) ++ bQ) K)
 | _ => False
@[congr] theorem acw {E : Env} {p p' : PV} {fG vV : List PV} {rows rows' : Rows} {K : PV → Prop} (h1 : p = p') (h2 : fG = vV) (h3 : rows = rows') : nO E p fG rows K = nO E p' vV rows' K := by rw [h1, h2, h3]
theorem CK {fo : Operand} {args : Array Operand} {ts : Array TypeId} (hfo : cT E (.call { callee := .value fo, args := args, argTypes := ts }) = false) : aN E ops clk k (⟨d, .call { callee := .value fo, args := args, argTypes := ts }, ty, pos, af, none⟩ :: os) K ⟨f, rows, bK, aO⟩ =
  nO E (aQ f fo) (args.toList.map (aQ f)) (dJ .any ops k aO rows) fun v => aN E ops clk (k + 1) os K ⟨put f d v, rows, bK, aO⟩ := by
 simp only [aN]
 rw [yT hfo]
 simp only [yR hfo, ys, vO, nO, aH, sU]
 generalize hA : aQ f fo = A
 have e1 : (args.toList.map fun x => pz (dJ .any ops k aO rows) (aQ f x)) = (args.toList.map (aQ f)).map (pz (dJ .any ops k aO rows)) := by rw [List.map_map]; rfl
 have e2 : (args.toList.flatMap fun x => dA (aQ f x)) = (args.toList.map (aQ f)).flatMap dA := by rw [List.flatMap_map]
 rw [e1, e2]
 have e3 : ∀ v, app k ⟨d, .call { callee := .value fo, args := args, argTypes := ts }, ty, pos, af, none⟩ true v none ⟨f, rows, bK, aO⟩ = ⟨put f d v, rows, bK, aO⟩ := fun v => eB rfl
 cases A with
 | fn g bQ =>
  apply propext
  constructor
  ·rintro ⟨v, u, ⟨rfl, ⟨h1, h2⟩, h3⟩, _, h4⟩; rw [e3] at h4; exact ⟨⟨h1, h3⟩, v, h2, h4⟩
  ·rintro ⟨⟨h1, h3⟩, v, h2, h4⟩; exact ⟨v, none, ⟨rfl, ⟨h1, h2⟩, h3⟩, trivial, by rw [e3]; exact h4⟩
 | _ => simp
theorem MJ {g : FuncId} {args : Array Operand} {ts : Array TypeId} (hw : E.writes g = true) : aN E ops clk k (⟨d, .call { callee := .value (.func g), args := args, argTypes := ts }, ty, pos, af, none⟩ :: os) K ⟨f, rows, bK, aO⟩ =
  ∃ e n els, ((args.toList.map (aQ f)).all eW = true ∧ gD E.P g (args.toList.map (aQ f)) e n els ∧ yS .any ops k (d.getD 0) bK) ∧ aN E ops (clk + 1) (k + 1) os K ⟨put f d (.own (d.getD 0) clk 0 els.length), dC rows (d.getD 0) (some ⟨clk, e, n, els⟩), bK, nN k (d.getD 0) aO⟩ := by
 have V8 : ∀ {v e' r0}, app k ⟨d, .call { callee := .value (.func g), args := args, argTypes := ts }, ty, pos, af, none⟩ true v (some (e', r0)) ⟨f, rows, bK, aO⟩ = ⟨put f d v, dC rows e' (some r0), bK, nN k e' aO⟩ := sV rfl
 simp only [aN, yn, gN]
 rw [if_pos hw]
 simp only [if_pos hw]
 apply propext
 constructor
 ·rintro ⟨v, u, ⟨h1, e, n, els, h2, rfl, rfl⟩, h3, h4⟩
  rw [V8] at h4
  exact ⟨e, n, els, ⟨h1, h2, h3⟩, h4⟩
 ·rintro ⟨e, n, els, ⟨h1, h2, h3⟩, h4⟩
  refine ⟨_, _, ⟨h1, e, n, els, h2, rfl, rfl⟩, h3, ?_⟩
  rw [V8]; exact h4
@[simp] theorem amq {md : Region.Mode} {ops : List Oper} {j : Nat} {rows : Rows} : dJ md ops j (fun _ _ => False) rows = rows := by
 funext id; simp [dJ]
@[simp] theorem amr {md : Region.Mode} {ops : List Oper} {j k id : Nat} {w : Nat → Nat → Prop} {rows : Rows} : dJ md ops j (nN k id w) rows = if nK md ops j k = true then dJ md ops j w rows else dC (dJ md ops j w rows) id none := by
 funext x
 unfold dJ nN
 by_cases hd : nK md ops j k = true
 ·rw [if_pos hd]
  have : (∃ k', ((k' = k ∧ x = id) ∨ w k' x) ∧ nK md ops j k' = false) ↔ ∃ k', w k' x ∧ nK md ops j k' = false := by
   constructor
   ·rintro ⟨k', ⟨rfl, _⟩ | h, h2⟩
    ·rw [hd] at h2; cases h2
    ·exact ⟨k', h, h2⟩
   ·rintro ⟨k', h, h2⟩; exact ⟨k', .inr h, h2⟩
  exact (by classical exact ite_congr (propext this) (fun _ => rfl) (fun _ => rfl))
 ·rw [if_neg hd]
  have WU : nK md ops j k = false := by simpa using hd
  simp only [dC]
  by_cases hx : x = id
  ·rw [if_pos hx, if_pos ⟨k, .inl ⟨rfl, hx⟩, WU⟩]
  ·rw [if_neg hx]
   have : (∃ k', ((k' = k ∧ x = id) ∨ w k' x) ∧ nK md ops j k' = false) ↔ ∃ k', w k' x ∧ nK md ops j k' = false := by
    constructor
    ·rintro ⟨k', ⟨_, h⟩ | h, h2⟩
     ·exact absurd h hx
     ·exact ⟨k', h, h2⟩
    ·rintro ⟨k', h, h2⟩; exact ⟨k', .inr h, h2⟩
   exact (by classical exact ite_congr (propext this) (fun _ => rfl) (fun _ => rfl))
@[simp] theorem apY {md : Region.Mode} {ops : List Oper} {i id : Nat} : yS md ops i id (fun _ _ => False) = True := by simp [yS]
@[simp] theorem apZ {md : Region.Mode} {ops : List Oper} {i id k : Nat} {l : List Nat} {t : Nat → Nat → Prop} : yS md ops i id (j2 k l t) = ((id ∈ l → nK md ops i k = true) ∧ yS md ops i id t) := by
 apply propext
 unfold yS j2
 constructor
 ·intro h; exact ⟨fun hi => h k (.inl ⟨rfl, rfl, hi⟩), fun k' hk => h k' (.inr hk)⟩
 ·rintro ⟨h1, h2⟩ k' (⟨_, rfl, h⟩ | h)
  ·exact h1 h
  ·exact h2 k' h
end
end Pm
