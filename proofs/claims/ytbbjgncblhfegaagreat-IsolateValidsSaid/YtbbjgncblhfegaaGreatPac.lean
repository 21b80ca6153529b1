import Derived.StillTail
import Derived.Deep.LoopGhost
import Derived.Test.YtbbjgncblhfegaaGreatPab
set_option linter.unusedSimpArgs false
set_option linter.unusedVariables false
namespace Pm
open Go Go.RowKit
def gF (P : Program) (f : FuncId) (args : List PV) (e : TypeId) (n : Nat) (els : List (List PV)) : Prop :=
 (∃ fn c, P.funcs[f]? = some fn ∧ fn.body = some c ∧ (fn.name == "runtime.NumGoroutine") = false) ∧
 ∀ (w : World) (S : dA) (vs : List Value), (∀ b o, S b o → b < w.heap.size) → bA S w args vs →
  Calls P f vs.toArray w fun x w' => ∃ (v : Value) (xs : List Value) (S' : dA), x = .returned v ∧ Below w.heap.size w w' ∧ (∀ b o, S b o → S' b o) ∧ (∀ b o, S' b o → S b o ∨ (w.heap.size ≤ b ∧ b < w'.heap.size)) ∧
   w'.ownsRow w.heap.size e n v els.length xs ∧ a9 (cN S' w') els.flatten xs ∧ (∀ y ∈ xs, y.oneCell' = true) ∧ (∀ x ∈ els, x.length = n) ∧ 0 < n ∧ (∀ g o, v.ownBlock = some g → ¬ S' g o)
def SL (md : Region.Mode) (ops : List Oper) (j k : Nat) : Bool :=
 match ops[j]? with
 | some o => o.after.toList.any fun e => Region.binds md e && e.on == k
 | none => false
def nK (md : Region.Mode) (ops : List Oper) (j k : Nat) : Bool := SL md ops j k || (List.range ops.length).any fun h => SL md ops j h && SL md ops h k
structure ST where
 f : Nat → PV
 rows : Rows
 bN : Nat → Nat → Prop
 wl : Nat → Nat → Prop
def cV (E : Env) : Op → Bool
 | .alloc _ => true
 | .box _ _ => true
 | .makeSlice _ _ _ => true
 | .call { callee := .builtin .append, args := ⟨[_, _]⟩, argTypes := ⟨[_, _]⟩ } => true
 | .call { callee := .value (.func g), args := _, argTypes := _ } => E.writes g
 | _ => false
def rN (E : Env) (ops : List Oper) : Bool := ops.all fun o => !cV E o.op || (o.dst.isSome && o.guard.isNone)
def rk (E : Env) (ops : List Oper) (i : Nat) : Nat := ((ops.take i).filter fun o => cV E o.op).length
theorem PK {E : Env} {ops : List Oper} {i : Nat} {o : Oper} (h : ops[i]? = some o) : rk E ops (i + 1) = rk E ops i + if cV E o.op = true then 1 else 0 := by
 unfold rk
 rw [List.take_add_one, h]
 simp only [Option.toList_some, List.filter_append, List.length_append]
 congr 1
 cases hn : cV E o.op <;> simp [hn]
theorem acb {E : Env} {ops : List Oper} {i j : Nat} (h : i ≤ j) : rk E ops i ≤ rk E ops j := by
 unfold rk
 have : (ops.take i).Sublist (ops.take j) := by
  have := List.take_sublist i (ops.take j)
  rwa [List.take_take, Nat.min_eq_left h] at this
 exact (this.filter _).length_le
theorem WD {E : Env} {ops : List Oper} {i j : Nat} {o : Oper} (h : ops[i]? = some o) (hn : cV E o.op = true) (hij : i < j) : rk E ops i < rk E ops j := by
 have h1 := PK (E := E) h
 rw [if_pos hn] at h1
 have := acb (E := E) (ops := ops) (show i + 1 ≤ j from hij)
 omega
theorem ag1 {E : Env} {ops : List Oper} {i j : Nat} {o o' : Oper} (h : ops[i]? = some o) (hn : cV E o.op = true) (h' : ops[j]? = some o') (vT : cV E o'.op = true) (he : rk E ops i = rk E ops j) : i = j := by
 rcases Nat.lt_trichotomy i j with h1 | h1 | h1
 ·have := WD h hn h1; omega
 ·exact h1
 ·have := WD h' vT h1; omega
def o0 (t : TI) (rows : Rows) (x y : PV) (c0 d : Nat) (v : PV) (u : Option (Nat × Row)) : Prop :=
 match t with
 | .slice e n b _ => ∃ l, sO rows y l ∧ (∀ e ∈ l, e.length = n) ∧
  match x with
  | .nil => l.length ≤ room ∧ l.length * b ≤ room ∧ v = .own d c0 0 l.length ∧ u = some (d, ⟨c0, e, n, l⟩)
  | .own id ver off len => ∃ r, rows id = some r ∧ r.ver = ver ∧ off = 0 ∧ len = r.els.length ∧ r.e = e ∧ r.size = n ∧ len + l.length ≤ room ∧ (len + l.length) * b ≤ room ∧
    v = .own id c0 0 (len + l.length) ∧ u = some (id, ⟨c0, e, n, r.els ++ l⟩)
  | _ => False
 | _ => False
def aeR (E : Env) (g : FuncId) (args : List PV) (c0 d : Nat) (v : PV) (u : Option (Nat × Row)) : Prop :=
 args.all eY = true ∧ ∃ e n els, gF E.P g args e n els ∧ v = .own d c0 0 els.length ∧ u = some (d, ⟨c0, e, n, els⟩)
def yn (E : Env) (c0 : Nat) (d : Option Tmp) (op : Op) (ρ : Operand → PV) (rows : Rows) (v : PV) (u : Option (Nat × Row)) : Prop :=
 match op with
 | .alloc t => (E.ty t).known = true ∧ v = .ptr (d.getD 0) c0 0 0 ∧ u = some (d.getD 0, ⟨c0, t, (E.ty t).size, [(E.ty t).zero]⟩)
 | .box t x => (E.ty t).known = true ∧ ∃ l, bQ (ρ x) = some l ∧ (∀ q ∈ l, gS (fun _ => none) q) ∧ l.length = (E.ty t).size ∧ v = .ptr (d.getD 0) c0 0 0 ∧ u = some (d.getD 0, ⟨c0, t, (E.ty t).size, [l]⟩)
 | .makeSlice t l c =>
  match E.ty t, ρ l, ρ c with
  | .slice e n b z, .int _ x, .int _ y => 0 ≤ x ∧ x ≤ y ∧ y.toNat ≤ room ∧ y.toNat * b ≤ room ∧ v = .own (d.getD 0) c0 0 x.toNat ∧ u = some (d.getD 0, ⟨c0, e, n, List.replicate x.toNat z⟩)
  | _, _, _ => False
 | .call { callee := .builtin .append, args := ⟨[x, y]⟩, argTypes := ⟨[t, t2]⟩ } => (t2 = t ∨ V6 (E.ty t2) = true) ∧ o0 (E.ty t) rows (ρ x) (ρ y) c0 (d.getD 0) v u
 | .call { callee := .value (.func g), args := aAs, argTypes := ts } => if E.writes g = true then aeR E g (aAs.toList.map fun x => ρ x) c0 (d.getD 0) v u else ys E (.call { callee := .value (.func g), args := aAs, argTypes := ts }) ρ rows v u
 | op => ys E op ρ rows v u
theorem yO {E : Env} {c0 : Nat} {d : Option Tmp} {op : Op} {ρ : Operand → PV} {rows : Rows} {v : PV} {u : Option (Nat × Row)} (h : cV E op = false) : yn E c0 d op ρ rows v u = ys E op ρ rows v u := by
 unfold yn
 split
 all_goals first
  | rfl
  | (simp [cV] at h; done)
  | (simp only [cV] at h; rw [if_neg (by rw [h]; decide)])
theorem lO {E : Env} {op : Op} {C : Prop} (h : cV E op = true) (h1 : ∀ t, op = .alloc t → C) (h2 : ∀ t x, op = .box t x → C) (h3 : ∀ t l c, op = .makeSlice t l c → C)
  (h4 : ∀ x y t t2, op = .call { callee := .builtin .append, args := ⟨[x, y]⟩, argTypes := ⟨[t, t2]⟩ } → C) (h5 : ∀ g aAs ts, op = .call { callee := .value (.func g), args := aAs, argTypes := ts } → E.writes g = true → C) : C := by
 unfold cV at h
 split at h
 ·exact h1 _ rfl
 ·exact h2 _ _ rfl
 ·exact h3 _ _ _ rfl
 ·exact h4 _ _ _ _ rfl
 ·exact h5 _ _ _ rfl h
 ·cases h
theorem acd {rows rows' : Rows} {y : PV} {l : List (List PV)} (h : iY (a7 y) rows rows') (hy : sO rows y l) : sO rows' y l ∧ ∀ id ∈ a7 y, ∃ r, rows id = some r := by
 unfold sO at *
 cases y with
 | own id ver off len =>
  obtain ⟨r, hr, hh⟩ := hy
  exact ⟨⟨r, h id (by simp [a7]) r hr, hh⟩, by simp [a7]; exact ⟨r, hr⟩⟩
 | nil => exact ⟨hy, by simp [a7]⟩
 | sl l => exact ⟨hy, by simp [a7]⟩
 | iV l => exact ⟨hy, by simp [a7]⟩
 | _ => exact hy.elim
theorem WE {t : TI} {rows rows' : Rows} {x y v : PV} {c0 d : Nat} {u : Option (Nat × Row)} (h : iY (a7 x ++ a7 y) rows rows') (hy : o0 t rows x y c0 d v u) : o0 t rows' x y c0 d v u ∧ ∀ id ∈ a7 x ++ a7 y, ∃ r, rows id = some r := by
 unfold o0 at *
 cases t with
 | slice e n b z =>
  obtain ⟨l, h1, h2, h3⟩ := hy
  obtain ⟨g1, g2⟩ := acd (fun id gK => h id (by simp only [List.mem_append]; exact .inr gK)) h1
  cases x with
  | nil => exact ⟨⟨l, g1, h2, h3⟩, fun id gK => g2 id (by simpa [a7] using gK)⟩
  | own id ver off len =>
   obtain ⟨r, hr, hh⟩ := h3
   refine ⟨⟨l, g1, h2, r, h id (by simp [a7]) r hr, hh⟩, fun iS gK => ?_⟩
   simp only [a7, List.mem_append, List.mem_cons, List.not_mem_nil, or_false] at gK
   rcases gK with rfl | gK
   ·exact ⟨r, hr⟩
   ·exact g2 iS gK
  | _ => exact h3.elim
 | _ => exact hy.elim
theorem PL {E : Env} {c0 : Nat} {d : Option Tmp} {op : Op} {ρ : Operand → PV} {rows rows' : Rows} {v : PV} {u : Option (Nat × Row)} (h : iY (gN op ρ) rows rows') (hy : yn E c0 d op ρ rows v u) :
  yn E c0 d op ρ rows' v u ∧ (∀ id ∈ gN op ρ, ∃ r, rows id = some r) ∧ ∀ id r, u = some (id, r) → (cV E op = true ∧ id = d.getD 0) ∨ id ∈ gN op ρ := by
 cases hn : cV E op with
 | false =>
  rw [yO hn] at hy ⊢
  obtain ⟨h1, h2, h3⟩ := aeQ h hy
  exact ⟨h1, h2, fun id r hu => .inr (h3 id r hu)⟩
 | true =>
  refine lO hn ?_ ?_ ?_ ?_ ?_
  ·rintro t rfl
   refine ⟨hy, by simp [gN], fun id r hu => .inl ⟨by first | trivial | rfl, ?_⟩⟩
   obtain ⟨_, _, rfl⟩ := hy
   simp at hu; exact hu.1.symm
  ·rintro t x rfl
   refine ⟨hy, by simp [gN], fun id r hu => .inl ⟨by first | trivial | rfl, ?_⟩⟩
   obtain ⟨_, _, _, _, _, _, rfl⟩ := hy
   simp at hu; exact hu.1.symm
  ·rintro t l c rfl
   refine ⟨hy, by simp [gN], fun id r hu => .inl ⟨by first | trivial | rfl, ?_⟩⟩
   simp only [yn] at hy
   split at hy
   ·obtain ⟨_, _, _, _, _, rfl⟩ := hy
    simp at hu; exact hu.1.symm
   ·exact hy.elim
  ·rintro x y t t2 rfl
   simp only [yn, gN] at hy h ⊢
   obtain ⟨h2, h3⟩ := hy
   obtain ⟨g1, g2⟩ := WE h h3
   refine ⟨⟨h2, g1⟩, g2, fun id r hu => ?_⟩
   unfold o0 at h3
   split at h3
   ·obtain ⟨l, _, _, h3⟩ := h3
    split at h3
    ·obtain ⟨_, _, _, rfl⟩ := h3
     simp at hu; exact .inl ⟨by first | trivial | rfl, hu.1.symm⟩
    ·rename_i hx
     obtain ⟨_, _, _, _, _, _, _, _, _, _, rfl⟩ := h3
     simp at hu
     rw [hx]
     exact .inr (by simp [a7, hu.1])
    ·exact h3.elim
   ·exact h3.elim
  ·rintro g aAs ts rfl hw
   simp only [yn] at hy ⊢
   rw [if_pos hw] at hy
   rw [if_pos hw]
   refine ⟨hy, by simp [gN], fun id r hu => .inl ⟨by first | trivial | exact hw, ?_⟩⟩
   obtain ⟨_, _, _, _, _, _, rfl⟩ := hy
   simp at hu; exact hu.1.symm
open Classical in
noncomputable def dM (md : Region.Mode) (ops : List Oper) (j : Nat) (wl : Nat → Nat → Prop) (rows : Rows) : Rows := fun id => if ∃ k, wl k id ∧ nK md ops j k = false then none else rows id
theorem jO {md : Region.Mode} {ops : List Oper} {j id : Nat} {wl : Nat → Nat → Prop} {rows : Rows} {r : Row} : dM md ops j wl rows id = some r ↔ (∀ k, wl k id → nK md ops j k = true) ∧ rows id = some r := by
 unfold dM
 split
 ·rename_i h
  obtain ⟨k, h1, h2⟩ := h
  simp only [reduceCtorEq, false_iff, not_and]
  intro h3
  rw [h3 k h1] at h2; cases h2
 ·rename_i h
  refine ⟨fun h2 => ⟨fun k hk => ?_, h2⟩, fun h2 => h2.2⟩
  cases hd : nK md ops j k with
  | true => rfl
  | false => exact absurd ⟨k, hk, hd⟩ h
def yP (md : Region.Mode) (ops : List Oper) (i id : Nat) (bN : Nat → Nat → Prop) : Prop := ∀ k, bN k id → nK md ops i k = true
def SM (md : Region.Mode) (ops : List Oper) (i : Nat) (u : Option (Nat × Row)) (bN : Nat → Nat → Prop) : Prop :=
 match u with
 | none => True
 | some (id, _) => yP md ops i id bN
def gOK (ops : Array Oper) (o : Oper) (f : Nat → PV) (b : Bool) : Prop :=
 match o.guard with
 | none => b = true
 | some (j, want) => ∃ d, (ops[j]?).bind (·.dst) = some d ∧ ((f d = .bool want ∧ b = true) ∨ ((f d = .bool (!want) ∨ f d = .eA []) ∧ b = false))
def YG (E : Env) (md : Region.Mode) (ops : Array Oper) (c0 : Nat) (i : Nat) (o : Oper) (b : Bool) (v : PV) (u : Option (Nat × Row)) (st : ST) : Prop :=
 gOK ops o st.f b ∧ if b = true then yn E (c0 + rk E ops.toList i) o.dst o.op (aR st.f) (dM md ops.toList i st.wl st.rows) v u else v = .eA [] ∧ u = none
def wlU (i : Nat) (u : Option (Nat × Row)) (wl : Nat → Nat → Prop) : Nat → Nat → Prop :=
 match u with
 | none => wl
 | some (id, _) => fun k iS => (k = i ∧ iS = id) ∨ wl k iS
def app (i : Nat) (o : Oper) (b : Bool) (v : PV) (u : Option (Nat × Row)) (st : ST) : ST :=
 { f := put st.f o.dst v, rows := fA st.rows u, bN := fun k id => (b = true ∧ k = i ∧ id ∈ gN o.op (aR st.f)) ∨ st.bN k id, wl := wlU i u st.wl }
def gO (E : Env) (op : Op) (clk : Nat) : Nat :=
 match op with
 | .alloc _ => clk + 1
 | .box _ _ => clk + 1
 | .makeSlice _ _ _ => clk + 1
 | .call { callee := .builtin .append, args := ⟨[_, _]⟩, argTypes := ⟨[_, _]⟩ } => clk + 1
 | .call { callee := .value (.func g), args := _, argTypes := _ } => if E.writes g = true then clk + 1 else clk
 | _ => clk
theorem yQ {E : Env} {op : Op} {clk : Nat} (h : cV E op = false) : gO E op clk = clk := by
 unfold gO
 split
 all_goals first
  | rfl
  | (simp [cV] at h; done)
  | (simp only [cV] at h; rw [if_neg (by rw [h]; decide)])
theorem WG {E : Env} {op : Op} {clk : Nat} (h : cV E op = true) : gO E op clk = clk + 1 := by
 refine lO h ?_ ?_ ?_ ?_ ?_
 ·rintro t rfl; rfl
 ·rintro t x rfl; rfl
 ·rintro t l c rfl; rfl
 ·rintro x y t t2 rfl; rfl
 ·rintro g aAs ts rfl hw; simp only [gO]; rw [if_pos hw]
theorem acf {E : Env} {ops : List Oper} {i c0 : Nat} {o : Oper} (h : ops[i]? = some o) : gO E o.op (c0 + rk E ops i) = c0 + rk E ops (i + 1) := by
 rw [PK h]
 cases hn : cV E o.op with
 | false => rw [yQ hn]; simp
 | true => rw [WG hn]; simp; omega
def WH (E : Env) (md : Region.Mode) (ops : Array Oper) (c0 : Nat) (i : Nat) (K : ST → Prop) (st : ST) : Prop :=
 match ops[i]? with
 | none => K st
 | some o => ∃ b v u, YG E md ops c0 i o b v u st ∧ SM md ops.toList i u st.bN ∧ K (app i o b v u st)
section
variable {E : Env} {ops : Array Oper} {md : Region.Mode}
theorem WI {c0 i : Nat} {K K' : ST → Prop} {st : ST} (h : ∀ st, K st → K' st) (hh : WH E md ops c0 i K st) : WH E md ops c0 i K' st := by
 unfold WH at *
 split
 ·exact h _ (by simpa [*] using hh)
 ·rename_i o ho
  simp only [ho] at hh
  obtain ⟨b, v, u, h1, h2, h3⟩ := hh
  exact ⟨b, v, u, h1, h2, h _ h3⟩
theorem PM {f : Nat → PV} {d : Option Tmp} {v : PV} {x : Operand} (h : ∀ t, d = some t → x ≠ .tmp t) : aR (put f d v) x = aR f x := by
 cases d with
 | none => rfl
 | some t =>
  cases x with
  | tmp s =>
   have : s ≠ t := fun e => h t rfl (by rw [e])
   simp [aR, put, this]
  | _ => rfl
theorem WJ {op : Op} {ρ ρ' : Operand → PV} {rows : Rows} {v : PV} {u : Option (Nat × Row)} (h : ∀ x ∈ op.operands, ρ x = ρ' x) : ys E op ρ rows v u ↔ ys E op ρ' rows v u := by
 have parts : ∀ ps : Array (Nat × Operand), (∀ x ∈ (ps.toList.map (·.2)).toArray, ρ x = ρ' x) → (ps.toList.map fun x => (x.1, ρ x.2)) = ps.toList.map fun x => (x.1, ρ' x.2) := fun ps hp =>
  List.map_congr_left fun p hm => by rw [hp p.2 (by simp; exact ⟨p.1, by simpa using hm⟩)]
 have args : ∀ (c : Call), (∀ x ∈ c.operands, ρ x = ρ' x) → ∀ x ∈ c.args.toList, ρ x = ρ' x := fun c hc x hx => hc x (by simp [Call.operands]; exact .inr (by simpa using hx))
 unfold ys
 split
 ·rename_i t p x
  rw [h p (by simp [Op.operands]), h x (by simp [Op.operands])]
 ·rename_i t len ps
  rw [parts ps (by simpa [Op.operands] using h)]
 ·rename_i f aAs ts
  have ha := args _ (by simpa [Op.operands] using h)
  simp only at ha
  rw [h f (by simp [Op.operands, Call.operands]), List.map_congr_left (g := fun x => pz rows (ρ' x)) fun x hx => by rw [ha x hx]]
  have : (aAs.toList.flatMap fun x => dD (ρ x)) = aAs.toList.flatMap fun x => dD (ρ' x) := by
   rw [List.flatMap_def, List.flatMap_def]
   congr 1
   exact List.map_congr_left fun x hx => by rw [ha x hx]
  rw [this]
 ·suffices hs : yv E op ρ rows v ↔ yv E op ρ' rows v by rw [hs]
  unfold yv
  split
  case h_12 =>
   rename_i t x lo hi mx _ _ _
   have o1 : ∀ y : Option Operand, (∀ z, y = some z → ρ z = ρ' z) → y.map ρ = y.map ρ' := by
    intro y hy; cases y with
    | none => rfl
    | some z => simp [hy z rfl]
   rw [h x (by simp [Op.operands]), o1 lo fun z hz => h z (by subst hz; simp [Op.operands]), o1 hi fun z hz => h z (by subst hz; simp [Op.operands]), o1 mx fun z hz => h z (by subst hz; simp [Op.operands])]
  case h_13 => rename_i t ps _ _ _; rw [parts ps (by simpa [Op.operands] using h)]
  case h_15 =>
   rename_i f b9 _ _ _
   rw [List.map_congr_left (l := b9.toList) (f := fun x => ρ x) (g := fun x => ρ' x) fun x hx => h x (by simp [Op.operands]; simpa using hx)]
  all_goals first
   | rfl
   | (simp only [Op.operands, Call.operands] at h; simp [h])
theorem yR {op : Op} {ρ ρ' : Operand → PV} (h : ∀ x ∈ op.operands, ρ x = ρ' x) : gN op ρ = gN op ρ' := by
 unfold gN
 split
 all_goals first
  | rfl
  | (simp only [Op.operands, Call.operands] at h; simp [h])
theorem HG {c0 : Nat} {d : Option Tmp} {op : Op} {ρ ρ' : Operand → PV} {rows : Rows} {v : PV} {u : Option (Nat × Row)} (h : ∀ x ∈ op.operands, ρ x = ρ' x) : yn E c0 d op ρ rows v u ↔ yn E c0 d op ρ' rows v u := by
 cases hn : cV E op with
 | false => rw [yO hn, yO hn]; exact WJ h
 | true =>
  refine lO hn ?_ ?_ ?_ ?_ ?_
  ·rintro t rfl; exact Iff.rfl
  ·rintro t x rfl
   simp only [yn]
   rw [h x (by simp [Op.operands])]
  ·rintro t l c rfl
   simp only [yn]
   rw [h l (by simp [Op.operands]), h c (by simp [Op.operands])]
  ·rintro x y t t2 rfl
   simp only [yn]
   rw [h x (by simp [Op.operands, Call.operands]), h y (by simp [Op.operands, Call.operands])]
  ·rintro g aAs ts rfl hw
   simp only [yn]
   rw [if_pos hw, if_pos hw, List.map_congr_left (l := aAs.toList) (f := fun x => ρ x) (g := fun x => ρ' x) fun x hx => h x (by simp [Op.operands, Call.operands]; exact .inr (by simpa using hx))]
theorem HH {o : Oper} {d : Tmp} {x : Operand} (h : d ∉ o.looksAt ops) (hx : x ∈ o.op.operands) : x ≠ .tmp d := by
 rintro rfl
 exact h (List.mem_append_left _ (List.mem_filterMap.2 ⟨.tmp d, by simpa using hx, rfl⟩))
theorem L2 {c : Cx} : aI c (.eA []) undef := by
 show cN c.S c.w (.eA []) undef
 simp only [cN]
 exact ⟨[], rfl, rfl⟩
theorem gG {c : Cx} {tmps : Array Value} {j : Nat} {d : Tmp} {t : Bool} (h1 : (ops[j]?).bind (·.dst) = some d) (h : aI c (.bool t) (tmps.getD d undef)) : yielded ops tmps j = some t := by
 rw [cX] at h
 unfold yielded
 rw [h1]
 simp only [Option.bind_some]
 cases hx : tmps[d]? with
 | none => simp [hx] at h; cases h
 | some y =>
  have hy : y = .bool t := by simpa [hx] using h
  rw [hy]
theorem rO {c : Cx} {tmps : Array Value} {j : Nat} {d : Tmp} (h1 : (ops[j]?).bind (·.dst) = some d) (h : aI c (.eA []) (tmps.getD d undef)) : yielded ops tmps j = none := by
 have h2 : tmps.getD d undef = .tuple #[] := by
  have h3 : cN c.S c.w (.eA []) (tmps.getD d undef) := h
  simp only [cN] at h3
  obtain ⟨vs, h4, h5⟩ := h3
  simp only [bA] at h5
  rw [h4, h5]
 unfold yielded
 rw [h1]
 simp only [Option.bind_some]
 cases hx : tmps[d]? with
 | none => rfl
 | some y =>
  have hy : y = .tuple #[] := by simpa [hx] using h2
  rw [hy]
theorem PN {o : Oper} {f : Nat → PV} {dd : Option Tmp} {v : PV} {b : Bool} (h : ∀ d, dd = some d → d ∉ o.looksAt ops) : gOK ops o (put f dd v) b ↔ gOK ops o f b := by
 unfold gOK
 cases hg : o.guard with
 | none => rfl
 | some g =>
  obtain ⟨j, want⟩ := g
  simp only
  have key : ∀ d, (ops[j]?).bind (·.dst) = some d → put f dd v d = f d := by
   intro d h1
   cases dd with
   | none => rfl
   | some e =>
    have oO : d ≠ e := by
     rintro rfl
     exact h d rfl (List.mem_append_right _ (by simp [hg, h1]))
    simp [put, oO]
  constructor
  ·rintro ⟨d, h1, h2⟩
   rw [key d h1] at h2
   exact ⟨d, h1, h2⟩
  ·rintro ⟨d, h1, h2⟩
   rw [← key d h1] at h2
   exact ⟨d, h1, h2⟩
theorem put_comm {f : Nat → PV} {x y : Option Tmp} {v u : PV} (h : ∀ d, x = some d → y ≠ some d) : put (put f x v) y u = put (put f y u) x v := by
 cases x with
 | none => rfl
 | some d =>
  cases y with
  | none => rfl
  | some e =>
   have oO : d ≠ e := fun he => h d rfl (by rw [he])
   funext j
   simp only [put]
   split <;> split <;> simp_all
theorem yS {rows : Rows} {u : Option (Nat × Row)} {j : Nat} (h : ∀ r, u ≠ some (j, r)) : fA rows u j = rows j := by
 cases u with
 | none => rfl
 | some x =>
  obtain ⟨i, r⟩ := x
  simp only [fA, dF]
  rw [if_neg]
  rintro rfl
  exact h r rfl
theorem nM {i : Nat} {u : Option (Nat × Row)} {wl : Nat → Nat → Prop} {k id : Nat} : wlU i u wl k id ↔ (k = i ∧ ∃ r, u = some (id, r)) ∨ wl k id := by
 cases u with
 | none => simp [wlU]
 | some x =>
  obtain ⟨iS, r⟩ := x
  simp only [wlU, Option.some.injEq, Prod.mk.injEq]
  constructor
  ·rintro (⟨h1, h2⟩ | h)
   ·exact .inl ⟨h1, r, h2.symm, rfl⟩
   ·exact .inr h
  ·rintro (⟨h1, r', h2, _⟩ | h)
   ·exact .inl ⟨h1, h2.symm⟩
   ·exact .inr h
theorem EM {i : Nat} {u : Option (Nat × Row)} {bN : Nat → Nat → Prop} : SM md ops.toList i u bN ↔ ∀ id r, u = some (id, r) → ∀ k, bN k id → nK md ops.toList i k = true := by
 cases u with
 | none => simp [SM]
 | some x =>
  obtain ⟨iS, r⟩ := x
  simp only [SM, yP, Option.some.injEq, Prod.mk.injEq]
  constructor
  ·rintro h _ _ ⟨rfl, _⟩; exact h
  ·intro h; exact h _ _ ⟨rfl, rfl⟩
theorem acg {c0 i j : Nat} {oi oj : Oper} {bi : Bool} {vi : PV} {ui : Option (Nat × Row)} (hj : ops[j]? = some oj) (V1 : oi.apart ops oj = true) (hds : cV E oi.op = true → oi.dst.isSome = true) (arX : cV E oj.op = true → oj.dst.isSome = true) (hdj : nK md ops.toList j i = false) {K : ST → Prop} {st : ST}
  (hy : YG E md ops c0 i oi bi vi ui st) (ho : SM md ops.toList i ui st.bN) (h : WH E md ops c0 j K (app i oi bi vi ui st)) :
  WH E md ops c0 j (fun PO => YG E md ops c0 i oi bi vi ui PO ∧ SM md ops.toList i ui PO.bN ∧ K (app i oi bi vi ui PO)) st := by
 obtain ⟨h1, h2, h3⟩ := Oper.apart_spec V1
 unfold WH at h ⊢
 simp only [hj] at h ⊢
 obtain ⟨bj, vj, uj, ⟨hgj, hyj⟩, hoj, hK⟩ := h
 obtain ⟨hgi, K1⟩ := hy
 rw [EM] at hoj ho
 have ej : ∀ x ∈ oj.op.operands, aR (put st.f oi.dst vi) x = aR st.f x := fun x hx => PM fun t ht => HH (h1 t ht) hx
 have ei : ∀ x ∈ oi.op.operands, aR (put st.f oj.dst vj) x = aR st.f x := fun x hx => PM fun t ht => HH (h3 t ht) hx
 have arY : gOK ops oj st.f bj := (PN h1).1 hgj
 have hnw : ∀ id r, dM md ops.toList j (app i oi bi vi ui st).wl (app i oi bi vi ui st).rows id = some r → ∀ r', ui ≠ some (id, r') := by
  intro id r hr r' hu
  obtain ⟨hw, _⟩ := jO.1 hr
  have := hw i (nM.2 (.inl ⟨rfl, r', hu⟩))
  rw [hdj] at this; cases this
 have hle : ∀ ids, iY ids (dM md ops.toList j (app i oi bi vi ui st).wl (app i oi bi vi ui st).rows) (dM md ops.toList j st.wl st.rows) := by
  intro ids id _ r hr
  have hn := hnw id r hr
  obtain ⟨hw, jJ⟩ := jO.1 hr
  simp only [app] at jJ hw
  rw [yS hn] at jJ
  exact jO.2 ⟨fun k hk => hw k (nM.2 (.inr hk)), jJ⟩
 have arZ : (if bj = true then yn E (c0 + rk E ops.toList j) oj.dst oj.op (aR st.f) (dM md ops.toList j st.wl st.rows) vj uj else vj = .eA [] ∧ uj = none) ∧
   (bj = true → ∀ id ∈ gN oj.op (aR st.f), ∃ r, dM md ops.toList j (app i oi bi vi ui st).wl (app i oi bi vi ui st).rows id = some r) ∧ (∀ id r, uj = some (id, r) → bj = true ∧ ((cV E oj.op = true ∧ id = oj.dst.getD 0) ∨ id ∈ gN oj.op (aR st.f))) := by
  by_cases hb : bj = true
  ·rw [if_pos hb] at hyj ⊢
   have ach := (HG ej).1 hyj
   obtain ⟨g1, g2, g3⟩ := PL (hle _) ach
   exact ⟨g1, fun _ => g2, fun id r hu => ⟨hb, g3 id r hu⟩⟩
  ·rw [if_neg hb] at hyj ⊢
   exact ⟨hyj, fun h => absurd h hb, fun id r hu => by rw [hyj.2] at hu; cases hu⟩
 obtain ⟨ar0, ach, ar1⟩ := arZ
 have ar2 : SM md ops.toList j uj st.bN := EM.2 fun id r hu k hk => hoj id r hu k (.inr hk)
 have hfi : ∀ id r, uj = some (id, r) → ¬ (bi = true ∧ id ∈ gN oi.op (aR st.f)) := by
  intro id r hu hh
  have := hoj id r hu i (.inl ⟨hh.1, rfl, hh.2⟩)
  rw [hdj] at this; cases this
 have hui : ∀ id r, ui = some (id, r) → bi = true ∧ ((cV E oi.op = true ∧ id = oi.dst.getD 0) ∨ id ∈ gN oi.op (aR st.f)) := by
  intro id r hu
  by_cases hb : bi = true
  ·rw [if_pos hb] at K1
   exact ⟨hb, (PL (rows' := dM md ops.toList i st.wl st.rows) (fun id _ r hr => hr) K1).2.2 id r hu⟩
  ·rw [if_neg hb] at K1
   rw [K1.2] at hu; cases hu
 have oO : ∀ id r r', ui = some (id, r) → uj = some (id, r') → False := by
  intro id r r' hu1 hu2
  obtain ⟨hb, hh⟩ := ar1 id r' hu2
  rcases hh with hh | hh
  ·obtain ⟨EI, hh1⟩ := hui id r hu1
   rcases hh1 with hh1 | hh1
   ·obtain ⟨d, hd⟩ := Option.isSome_iff_exists.1 (hds hh1.1)
    have e1 : id = d := by rw [hh1.2, hd]; rfl
    cases ag5 : oj.dst with
    | none => exact absurd ag5 (fun he => by have := arX hh.1; rw [he] at this; cases this)
    | some d' =>
     have e2 : id = d' := by rw [hh.2, ag5]; rfl
     exact h2 d hd (by rw [ag5, ← e2, e1])
   ·exact hfi id r' hu2 ⟨EI, hh1⟩
  ·obtain ⟨r'', ar3⟩ := ach hb id hh
   exact hnw id r'' ar3 r hu1
 have ar4 : bi = true → iY (gN oi.op (aR st.f)) (dM md ops.toList i st.wl st.rows) (dM md ops.toList i (app j oj bj vj uj st).wl (app j oj bj vj uj st).rows) := by
  intro hb id gK r hr
  obtain ⟨hw, jJ⟩ := jO.1 hr
  have hn : ∀ r', uj ≠ some (id, r') := fun r' hu => hfi id r' hu ⟨hb, gK⟩
  refine jO.2 ⟨fun k hk => ?_, ?_⟩
  ·rcases nM.1 hk with ⟨_, r', hu⟩ | hk
   ·exact absurd hu (hn r')
   ·exact hw k hk
  ·simp only [app]; rw [yS hn]; exact jJ
 refine ⟨bj, vj, uj, ⟨arY, ar0⟩, ar2, ⟨(PN h3).2 hgi, ?_⟩, ?_, ?_⟩
 ·by_cases hb : bi = true
  ·rw [if_pos hb] at K1 ⊢
   refine (HG ei).2 ?_
   exact (PL (ar4 hb) K1).1
  ·rw [if_neg hb] at K1 ⊢; exact K1
 ·-- i's own row has not axr apW
  rw [EM]
  rintro id r hu k (⟨hb, rfl, hh⟩ | hh)
  ·obtain ⟨r', jJ⟩ := ach hb id hh
   exact absurd hu (hnw id r' jJ r)
  ·exact ho id r hu k hh
 ·have : app i oi bi vi ui (app j oj bj vj uj st) = app j oj bj vj uj (app i oi bi vi ui st) := by
   simp only [app, ST.mk.injEq]
   refine ⟨put_comm fun d hd => fun WK => (h2 d) (by first | exact hd | exact WK) (by first | exact WK | exact hd), ?_, ?_, ?_⟩
   ·cases ui with
    | none => rfl
    | some x =>
     cases uj with
     | none => rfl
     | some y =>
      obtain ⟨id, r⟩ := x
      obtain ⟨iS, r'⟩ := y
      have : id ≠ iS := fun e => oO id r r' rfl (by rw [e])
      funext k
      simp only [fA, dF]
      split <;> split <;> simp_all
   ·funext k id
    have e1 : gN oi.op (aR (put st.f oj.dst vj)) = gN oi.op (aR st.f) := yR ei
    have e2 : gN oj.op (aR (put st.f oi.dst vi)) = gN oj.op (aR st.f) := yR ej
    rw [e1, e2]
    apply propext
    constructor
    ·rintro (h | h | h)
     ·exact .inr (.inl h)
     ·exact .inl h
     ·exact .inr (.inr h)
    ·rintro (h | h | h)
     ·exact .inr (.inl h)
     ·exact .inl h
     ·exact .inr (.inr h)
   ·funext k id
    apply propext
    rw [nM, nM, nM, nM]
    constructor
    ·rintro (h | h | h)
     ·exact .inr (.inl h)
     ·exact .inl h
     ·exact .inr (.inr h)
    ·rintro (h | h | h)
     ·exact .inr (.inl h)
     ·exact .inl h
     ·exact .inr (.inr h)
  rw [this]; exact hK
theorem HI {j k : Nat} : SL md ops.toList j k = true ↔ ∃ oj, ops[j]? = some oj ∧ ∃ e ∈ oj.after, Region.binds md e = true ∧ e.on = k := by
 unfold SL
 cases h : ops[j]? with
 | none => simp [show ops.toList[j]? = none by simpa using h]
 | some oj =>
  rw [show ops.toList[j]? = some oj by simpa using h]
  simp only [List.any_eq_true, Bool.and_eq_true, beq_iff_eq, Option.some.injEq]
  constructor
  ·rintro ⟨e, he, h1, h2⟩; exact ⟨oj, rfl, e, by simpa using he, h1, h2⟩
  ·rintro ⟨_, rfl, e, he, h1, h2⟩; exact ⟨e, by simpa using he, h1, h2⟩
theorem aci {n j i : Nat} {oj : Oper} {aZ : Array Bool} (hj : ops[j]? = some oj) (inv : HeadInv md ops n aZ) (hr : ∀ e ∈ oj.after, Region.binds md e = true → aZ.getD e.on false = true) (K2 : aZ.getD i false = false) : nK md ops.toList j i = false := by
 have one : ∀ k, SL md ops.toList j k = true → aZ.getD k false = true := fun k hk => by
  obtain ⟨o, ho, e, he, h1, rfl⟩ := HI.1 hk
  rw [hj] at ho; cases ho
  exact hr e he h1
 cases hd : nK md ops.toList j i with
 | false => rfl
 | true =>
  exfalso
  unfold nK at hd
  rcases Bool.or_eq_true_iff.1 hd with h | h
  ·rw [one i h] at K2; cases K2
  ·obtain ⟨k, _, hk⟩ := List.any_eq_true.1 h
   obtain ⟨h1, h2⟩ := Bool.and_eq_true_iff.1 hk
   obtain ⟨o, ho, e, he, h3, rfl⟩ := HI.1 h2
   rw [inv.closed k o ho (one k h1) e he h3] at K2; cases K2
end
section
variable {E : Env} {ops : Array Oper} {md : Region.Mode}
def HJ (E : Env) (md : Region.Mode) (ops : Array Oper) (c0 n : Nat) (L : Array Bool → ST → Prop) : Nat → Array Bool → ST → Prop
 | 0, aZ, st => L aZ st
 | f + 1, aZ, st => Region.ready md ops aZ ≠ [] ∧ ∀ i ∈ Region.ready md ops aZ, i < n ∧ WH E md ops c0 i (HJ E md ops c0 n L f (aZ.setIfInBounds i true)) st
theorem HK {c0 n i : Nat} {oi : Oper} {b : Bool} {v : PV} {u : Option (Nat × Row)} {L : Array Bool → ST → Prop} (hi : ops[i]? = some oi) (nI : ∀ i oi, i < n → ops[i]? = some oi → cV E oi.op = true → oi.dst.isSome = true)
  (yT : ∀ aZ, HeadInv md ops n aZ → ∀ i, i < n → aZ.getD i true = false → ∀ t, n ≤ t → t ∉ Region.ready md ops aZ) (hin : i < n)
  (ame : ∀ aZ st, L aZ st → ∀ j ∈ Region.ready md ops aZ, n ≤ j) :
  ∀ (f : Nat) (aZ : Array Bool) (st : ST), HeadInv md ops n aZ →
   (∀ j oj, ops[j]? = some oj → j ≠ i → aZ.getD j true = false → (∀ e ∈ oj.after, Region.binds md e = true → e.on ≠ i) → oi.apart ops oj = true) →
   i ∈ Region.ready md ops aZ → YG E md ops c0 i oi b v u st → SM md ops.toList i u st.bN →
   HJ E md ops c0 n L f (aZ.setIfInBounds i true) (app i oi b v u st) → HJ E md ops c0 n L (f + 1) aZ st := by
 intro f
 induction f with
 | zero =>
  intro aZ st inv _ hr hy ho H
  have K2 := (mem_ready.1 hr).1
  refine ⟨fun h => (by rw [h] at hr; cases hr), fun j hj => ?_⟩
  have hjn : j < n := by
   rcases Nat.lt_or_ge j n with h | h
   ·exact h
   ·exact absurd hj (yT aZ inv i hin K2 j h)
  refine ⟨hjn, ?_⟩
  by_cases hji : j = i
  ·subst hji; unfold WH; simp only [hi]; exact ⟨b, v, u, hy, ho, H⟩
  ·have := ame _ _ H j (ready_mono hj hji)
   omega
 | succ f ih =>
  intro aZ st inv aeU hr hy ho H
  have K2 := (mem_ready.1 hr).1
  refine ⟨fun h => (by rw [h] at hr; cases hr), fun j hj => ?_⟩
  have hjn : j < n := by
   rcases Nat.lt_or_ge j n with h | h
   ·exact h
   ·exact absurd hj (yT aZ inv i hin K2 j h)
  refine ⟨hjn, ?_⟩
  by_cases hji : j = i
  ·subst hji; unfold WH; simp only [hi]; exact ⟨b, v, u, hy, ho, H⟩
  ·have h1 := (H.2 j (ready_mono hj hji)).2
   obtain ⟨amg, oj, hoj, rP⟩ := mem_ready.1 hj
   have ag6 : ∀ e ∈ oj.after, Region.binds md e = true → e.on ≠ i := fun e he hb heq => by
    have h1 := rP e he hb
    rw [heq, getD_both K2] at h1
    cases h1
   have h2 := acg hoj (aeU j oj hoj hji amg ag6) (nI i oi hin hi) (nI j oj hjn hoj) (aci hoj inv rP (getD_both K2)) hy ho h1
   have ag7 : ∀ k ok, ops[k]? = some ok → k ≠ i → (aZ.setIfInBounds j true).getD k true = false →
     (∀ e ∈ ok.after, Region.binds md e = true → e.on ≠ i) → oi.apart ops ok = true := fun k ok hk hki amh hno => by
    refine aeU k ok hk hki ?_ hno
    by_cases hjk : j = k
    ·subst hjk; exact amg
    ·rw [getD_set_ne true hjk] at amh; exact amh
   refine WI (fun PO h3 => ih (aZ.setIfInBounds j true) PO (inv.set hj hjn) ag7 (ready_mono hr (Ne.symm hji)) h3.1 h3.2.1 ?_) h2
   rw [Array.setIfInBounds_comm _ _ hji]
   exact h3.2.2
def ag9 (E : Env) (md : Region.Mode) (ops : Array Oper) (c0 : Nat) (Lq : ST → Prop) : Nat → List Oper → ST → Prop
 | _, [], st => Lq st
 | k, o :: os, st => ∃ b v u, YG E md ops c0 k o b v u st ∧ SM md ops.toList k u st.bN ∧ ag9 E md ops c0 Lq (k + 1) os (app k o b v u st)
theorem p7 {c0 n g : Nat} {Lq : ST → Prop} (nI : ∀ i oi, i < n → ops[i]? = some oi → cV E oi.op = true → oi.dst.isSome = true) (yT : ∀ aZ, HeadInv md ops n aZ → ∀ i, i < n → aZ.getD i true = false → ∀ t, n ≤ t → t ∉ Region.ready md ops aZ) :
  ∀ (l : List Oper) (k : Nat) (aZ : Array Bool) (st : ST), (∀ j, j < l.length → l[j]? = ops[k + j]?) → k + l.length = n → HeadInv md ops n aZ →
  Region.lexHead md ops g l.length k aZ = true → ag9 E md ops c0 Lq k l st →
  HJ E md ops c0 n (fun PQ PO => Region.seqB md ops g n PQ = true ∧ Lq PO) l.length aZ st
 | [], k, aZ, st, _, hk, _, hB, h => by
  have : k = n := by simpa using hk
  subst this
  exact ⟨by simpa [Region.lexHead] using hB, h⟩
 | o :: l, k, aZ, st, hl, hk, inv, hB, h => by
  have h0 : ops[k]? = some o := by simpa using (hl 0 (by simp)).symm
  simp only [List.length_cons, Region.lexHead, Bool.and_eq_true] at hB
  obtain ⟨⟨hr, hf⟩, hB'⟩ := hB
  have hkn : k < n := by simp only [List.length_cons] at hk; omega
  have jJ : k ∈ Region.ready md ops aZ := by simpa using hr
  obtain ⟨b, v, u, hy, ho, hK⟩ := h
  exact HK h0 nI yT hkn (fun PQ PO hL => seqB_ready hL.1) l.length aZ st inv (Region.free_spec h0 hf) jJ hy ho
   (p7 nI yT l (k + 1) _ _ (fun j hj => by have := hl (j + 1) (by simp; omega); simpa [Nat.add_assoc, Nat.add_comm 1 j] using this) (by simp only [List.length_cons] at hk; omega) (inv.set jJ hkn) hB' hK)
variable {w0 : World} {S0 : dA} {m : Nat} {G : Gs}
theorem L3 {o : Oper} {a : Act} {w : World} {f : Nat → PV} {rows : Rows} {U : Nat → Prop} {c0 : Nat} {v : PV} {u : Option (Nat × Row)} (PH : ¬ U c0) {g : FuncId} {aAs : Array Operand} {ts : Array TypeId} (ho : o.op = .call { callee := .value (.func g), args := aAs, argTypes := ts })
  (hy : aeR E g (aAs.toList.map fun x => aR f x) c0 (o.dst.getD 0) v u) (hR : nJ w0 S0 m G U f rows a w) (hd : ∀ t, o.dst = some t → t < m)
  {K' : Act → World → Prop} {Q : Exit → Act → World → Prop} (hK : ∀ a' w', nJ w0 S0 m G (fun v => v = c0 ∨ U v) (put f o.dst v) (fA rows u) a' w' → K' a' w') : o.wp E.P a w K' Q := by
 obtain ⟨⟨c, rfl, hr, eO, hI, hf, hG⟩, hn, eK⟩ := hR
 have hρ := kI hf
 have hfu : ¬ c.used c0 := fun hu => PH (eO _ hu)
 obtain ⟨rA, e, n, els, ⟨⟨fn, b, h1, h2, h3⟩, LX⟩, rfl, rfl⟩ := hy
 obtain ⟨dst, op, type, pos, after, guard⟩ := o
 simp only at ho hd hK
 subst ho
 have fM : a9 (aI c) (aAs.toList.map fun x => aR f x) (aAs.map a.eval).toList := by
  refine a9.cW (by simp) fun k p u hp hu => ?_
  simp at hp hu
  obtain ⟨x, hx, rfl⟩ := hp
  obtain ⟨y, hy, rfl⟩ := hu
  rw [hx] at hy; cases hy
  exact hρ x
 have eZ : bA c.S c.w (aAs.toList.map fun x => aR f x) (aAs.map a.eval).toList := cE.2 (a9.cW fM.length fun k p u hp hu => by
  obtain ⟨u', q1, q2⟩ := fM.get hp
  rw [hu] at q1; cases q1
  exact q2.rep (List.all_eq_true.1 rA p (List.mem_of_getElem? hp)))
 have oZ := LX c.w c.S _ (fun b o hb => hI.lt hb) eZ
 simp only [Array.toArray_toList] at oZ
 have hfo := hρ (.func g)
 simp only [aR, aI, aP, cN] at hfo
 obtain ⟨cs, hfv, GY⟩ := hfo
 simp only [bA] at GY
 subst GY
 unfold Oper.wp
 have iX : (execOp a.eval { dst := dst, op := .call { callee := .value (.func g), args := aAs, argTypes := ts }, type := type, pos := pos, after := after, guard := guard }).run E.P c.w = .ok (.enter g (aAs.map a.eval)) c.w := by
  simp only [execOp, resolve, hfv, Deferred.ofValue, Sem.run_bind, Sem.run_pure, Result.andThen_ok, invoke]
  simpa using kT h1 h2 h3 (aAs.map a.eval) c.w
 rw [iX]
 refine oZ.mono ?_
 rintro x w' ⟨v', xs, S', rfl, hb, g1, g2, g3, g4, g5, g6, g7, g8⟩
 obtain ⟨hI2, hA2⟩ := hI.grow hb g1 g2
 obtain ⟨hI3, hA3⟩ := hI2.set (w' := w') (ob := v'.ownBlock) (id := dst.getD 0) (r' := ⟨c0, e, n, els⟩) (v' := v') (xs := xs) (World.grownBy.refl _ _)
  (fun g hg => by
   have hge := (g3.lt g hg).1
   refine ⟨by have := hI.below.size; omega, fun o => g8 g o hg, fun iS r hr _ x9 => ?_⟩
   obtain ⟨⟨ys, q1, _, _⟩, _⟩ := hI.row iS r hr
   have := (q1.lt g x9).2
   omega) ⟨g3.1, g3.2.imp id fun ⟨g, cap, cur, q1, q2, q3⟩ => ⟨g, cap, cur, q1, Nat.le_trans hI.below.size q2, q3⟩⟩ (g4.mono fun _ _ h => aP.iW h) g5 g6 g7 (fun g hg => .inl hg) hfu
 refine hK _ _ ?_
 have hf2 : ∀ s, aI { c with S := S', w := w' } (f s) (a.tmps.getD s undef) := fun s => aI.rH hA2 _ _ (hf s)
 have hG2 : ∀ p ∈ G, aI { c with S := S', w := w' } p.1 p.2 := fun p hp => aI.rH hA2 _ _ (hG p hp)
 refine mT hf2 hG2 hn eK hA3 hI3 ?_ hd rfl (by simp [fA, hr]) (fun v hv => hv.imp (fun h => h) (eO v))
 rcases g3.2 with ⟨rfl, h8⟩ | ⟨g, jL, cur, rfl, _⟩
 ·have : els.length = 0 := h8
  rw [this]
  exact j0 (r := ⟨c0, e, n, els⟩) (A := none) (cap := 0) (by simp [dF]) (by simpa using h8) (Or.inl rfl) (by simp [dF])
 ·exact j0 (r := ⟨c0, e, n, els⟩) (by simp [dF]) rfl (Or.inl rfl) (by simp [dF])
theorem WL {o : Oper} {a : Act} {w : World} {f : Nat → PV} {rows : Rows} {U : Nat → Prop} {c0 : Nat} {v : PV} {u : Option (Nat × Row)} (PH : ¬ U c0) (hn : cV E o.op = true) (hy : yn E c0 o.dst o.op (aR f) rows v u) (hR : nJ w0 S0 m G U f rows a w) (hd : ∀ t, o.dst = some t → t < m)
  {K' : Act → World → Prop} {Q : Exit → Act → World → Prop} (hK : ∀ a' w', nJ w0 S0 m G (fun v => v = c0 ∨ U v) (put f o.dst v) (fA rows u) a' w' → K' a' w') : o.wp E.P a w K' Q := by
 by_cases oZ : ∃ g aAs ts, o.op = .call { callee := .value (.func g), args := aAs, argTypes := ts } ∧ E.writes g = true
 ·obtain ⟨g, aAs, ts, ho, hw⟩ := oZ
  rw [ho] at hy
  simp only [yn] at hy
  rw [if_pos hw] at hy
  exact L3 PH ho hy hR hd hK
 refine sR (ver := c0) PH (K := fun _ f' rows' => f' = put f o.dst v ∧ rows' = fA rows u) ?_ hR hd (fun i f' rows' a' w' h j1 => by
  obtain ⟨rfl, rfl⟩ := h
  exact hK a' w' (j1.mono fun v hv => hv.imp (fun h => h.2) fun h => h))
 obtain ⟨dst, op, type, pos, after, guard⟩ := o
 simp only at hn hy oZ ⊢
 refine lO hn ?_ ?_ ?_ ?_ ?_
 ·rintro t rfl
  simp only [yn] at hy
  obtain ⟨h2, rfl, rfl⟩ := hy
  exact ⟨h2, rfl, rfl⟩
 ·rintro t x rfl
  simp only [yn] at hy
  obtain ⟨h2, l, h3, h4, h5, rfl, rfl⟩ := hy
  exact ⟨h2, l, h3, fun q hq => EL (fun id _ r hr => by cases hr) (h4 q hq), h5, rfl, rfl⟩
 ·rintro t l cc rfl
  simp only [yn] at hy
  simp only [mI]
  split at hy
  ·rename_i e n b z k1 x k2 y hE hl hc
   obtain ⟨g1, g2, g3, g4, rfl, rfl⟩ := hy
   try rw [hE, hl, hc]
   exact ⟨g1, g2, g3, g4, rfl, rfl⟩
  ·exact hy.elim
 ·rintro x y t t2 rfl
  simp only [yn] at hy
  obtain ⟨h2, hy⟩ := hy
  simp only [mI]
  refine ⟨h2, ?_⟩
  unfold o0 at hy
  unfold mU
  split at hy
  ·rename_i e n b z hE
   obtain ⟨l, g1, g2, g3⟩ := hy
   rw [hE]
   refine ⟨l, g1, g2, ?_⟩
   split at g3
   ·rename_i hx
    obtain ⟨q1, q2, rfl, rfl⟩ := g3
    rw [hx]
    exact ⟨q1, q2, rfl, rfl⟩
   ·rename_i id ver off len hx
    obtain ⟨r, q1, q2, q3, q4, q5, q6, q7, q8, rfl, rfl⟩ := g3
    rw [hx]
    exact ⟨r, q1, q2, q3, q4, q5, q6, q7, q8, rfl, rfl⟩
   ·exact g3.elim
  ·exact hy.elim
 ·rintro g aAs ts rfl hw
  exact absurd ⟨g, aAs, ts, rfl, hw⟩ oZ
theorem SN {c0 i : Nat} {st : ST} {K : ST → Prop} {U : Nat → Prop} (PH : ∀ o, ops[i]? = some o → cV E o.op = true → ¬ U (c0 + rk E ops.toList i)) (h : WH E md ops c0 i K st) {a : Act} {w : World} (hR : nJ w0 S0 m G U st.f st.rows a w) (hd : ∀ o, o ∈ ops → ∀ t, o.dst = some t → t < m)
  {K' : Act → World → Prop} {Q : Exit → Act → World → Prop} (hK : ∀ PO a' w', K PO → nJ w0 S0 m G (fun v => (v = c0 + rk E ops.toList i ∧ ∃ o, ops[i]? = some o ∧ cV E o.op = true) ∨ U v) PO.f PO.rows a' w' → K' a' w') : wpOp E.P ops Q i K' a w := by
 unfold WH at h
 unfold wpOp
 split at h
 ·rename_i hi; simp only [hi]; exact hK _ _ _ h (hR.mono fun v hv => .inr hv)
 ·rename_i o hi
  simp only [hi]
  obtain ⟨b, v, u, ⟨hg, hy⟩, ho, hk⟩ := h
  have j1 := hR
  obtain ⟨⟨c, rfl, hr, eO, hI, hf, hG⟩, hn, eK⟩ := hR
  have hdo := hd o (Array.mem_of_getElem? hi)
  have aeV : Region.wanted o (yielded ops a.tmps) = b := by
   unfold gOK at hg
   unfold Region.wanted
   cases hgd : o.guard with
   | none => rw [hgd] at hg; simp only at hg ⊢; exact hg.symm
   | some x =>
    obtain ⟨j, want⟩ := x
    rw [hgd] at hg
    simp only at hg ⊢
    obtain ⟨d, h1, h2⟩ := hg
    have hx := hf d
    rcases h2 with ⟨h2, h3⟩ | ⟨h2 | h2, h3⟩
    ·rw [h2] at hx
     rw [gG h1 hx, h3]
     cases want <;> rfl
    ·rw [h2] at hx
     rw [gG h1 hx, h3]
     cases want <;> rfl
    ·rw [h2] at hx
     rw [rO h1 hx, h3]
     rfl
  by_cases hb : b = true
  ·subst hb
   rw [if_pos rfl] at hy
   rw [aeV, if_pos rfl]
   left
   cases nI : cV E o.op with
   | true =>
    refine WL (PH o hi nI) nI (PL (fun id _ r jJ => (jO.1 jJ).2) hy).1 j1 hdo fun a' w' hR2 => hK _ _ _ hk ?_
    exact hR2.mono fun v hv => hv.imp (fun h => ⟨h, o, by first | exact hi | rfl, nI⟩) fun h => h
   | false =>
    rw [yO nI] at hy
    have BM : ys E o.op (aR st.f) c.rows v u := by
     rw [hr]
     exact (aeQ (fun id _ r jJ => (jO.1 jJ).2) hy).1
    refine HF hI hf BM fun v' c' h1 h2 h3 h4 h5 => hK _ _ _ hk ?_
    refine mT hf hG hn eK h3 h4 h5 hdo rfl ?_ ?_
    ·simp only [app]
     rw [h1, hr]
    ·rw [h2]
     exact fun v hv => .inr (eO v hv)
  ·rw [if_neg hb] at hy
   obtain ⟨rfl, rfl⟩ := hy
   rw [aeV, if_neg hb]
   refine hK _ _ _ hk ?_
   have x9 : b = false := by simpa using hb
   subst x9
   exact mT hf hG hn eK (rG.refl c) hI L2 hdo rfl (by rw [hr]; rfl) (fun v hv => .inr (eO v hv))
def Ul (E : Env) (ops : Array Oper) (c0 n : Nat) (aZ : Array Bool) : Nat → Prop := fun v => v < c0 ∨ ∃ k o, k < n ∧ ops[k]? = some o ∧ cV E o.op = true ∧ v = c0 + rk E ops.toList k ∧ aZ.getD k false = true
theorem L4 {c0 n v : Nat} {aZ : Array Bool} (h : Ul E ops c0 n aZ v) : v < c0 + rk E ops.toList n := by
 rcases h with h | ⟨k, o, hk, ho, hn, rfl, _⟩
 ·omega
 ·have := WD (ops := ops.toList) (by simpa using ho) hn hk
  omega
theorem jV {c0 n g : Nat} {L : Array Bool → ST → Prop} {Q : Exit → Act → World → Prop} (hd : ∀ o, o ∈ ops → ∀ t, o.dst = some t → t < m)
  (hL : ∀ aZ (st : ST) a w, L aZ st → nJ w0 S0 m G (Ul E ops c0 n aZ) st.f st.rows a w → wpAny E.P md ops Q g aZ a w) :
  ∀ (f : Nat) (aZ : Array Bool) (st : ST) (a : Act) (w : World), n ≤ aZ.size → HJ E md ops c0 n L f aZ st → nJ w0 S0 m G (Ul E ops c0 n aZ) st.f st.rows a w → wpAny E.P md ops Q (f + g) aZ a w
 | 0, aZ, st, a, w, _, h, hR => by rw [Nat.zero_add]; exact hL _ _ _ _ h hR
 | f + 1, aZ, st, a, w, mG, h, hR => by
  rw [show f + 1 + g = (f + g) + 1 by omega]
  refine ⟨fun h0 => absurd h0 h.1, fun i hi => ?_⟩
  have K2 := (mem_ready.1 hi).1
  obtain ⟨hin, hq⟩ := h.2 i hi
  refine SN (fun o ho hn hU => ?_) hq hR hd fun PO a' w' h' j1 => jV hd hL f _ PO a' w' (by simpa using mG) h' (j1.mono fun v hv => ?_)
  ·rcases hU with hU | ⟨k, o', hk, ho', vT, he, hl⟩
   ·omega
   ·have := ag1 (ops := ops.toList) (by simpa using ho) hn (by simpa using ho') vT (by omega)
    subst this
    rw [getD_both K2] at hl; cases hl
  ·rcases hv with ⟨rfl, o, ho, hn⟩ | hv
   ·exact .inr ⟨i, o, hin, ho, hn, rfl, by simp [show i < aZ.size by omega]⟩
   ·rcases hv with hv | ⟨k, o, hk, ho, hn, he, hl⟩
    ·exact .inl hv
    ·refine .inr ⟨k, o, hk, ho, hn, he, ?_⟩
     by_cases hki : i = k
     ·subst hki; simp [show i < aZ.size by omega]
     ·simpa [Array.getElem?_setIfInBounds_ne hki] using hl
end
def aL (E : Env) (ops : List Oper) : List Oper → (PS → Prop) → PS → Prop
 | [], K, σ => K σ
 | o :: os, K, σ =>
  match o.guard with
  | none => dR E o (aL E ops os K) σ
  | some (j, want) =>
   match (ops[j]?).bind (·.dst) with
   | none => False
   | some d => (σ.f d = .bool want ∧ dR E o (aL E ops os K) σ) ∨ ((σ.f d = .bool (!want) ∨ σ.f d = .eA []) ∧ aL E ops os K (σ.put o.dst (.eA [])))
def aN (E : Env) (ops : List Oper) (clk : Nat) : Nat → List Oper → (PS → Prop) → ST → Prop
 | _, [], K, st => K ⟨st.f, st.rows, clk⟩
 | k, o :: os, K, st =>
  match o.guard with
  | none => ∃ v u, yn E clk o.dst o.op (aR st.f) (dM .any ops k st.wl st.rows) v u ∧ SM .any ops k u st.bN ∧ aN E ops (gO E o.op clk) (k + 1) os K (app k o true v u st)
  | some (j, want) =>
   match (ops[j]?).bind (·.dst) with
   | none => False
   | some d => (st.f d = .bool want ∧ ∃ v u, yn E clk o.dst o.op (aR st.f) (dM .any ops k st.wl st.rows) v u ∧ SM .any ops k u st.bN ∧ aN E ops (gO E o.op clk) (k + 1) os K (app k o true v u st)) ∨ ((st.f d = .bool (!want) ∨ st.f d = .eA []) ∧ aN E ops clk (k + 1) os K (app k o false (.eA []) none st))
def fB (E : Env) (tl : Nat) (ops : List Oper) (K : PS → Prop) (σ : PS) : Prop :=
 if tl = 0 then aN E ops σ.clock 0 ops K ⟨σ.f, σ.rows, fun _ _ => False, fun _ _ => False⟩
 else aN E ops σ.clock 0 (ops.take (ops.length - tl)) (aL E ops (ops.drop (ops.length - tl)) K) ⟨σ.f, σ.rows, fun _ _ => False, fun _ _ => False⟩
inductive PX where
 | normal
 | exit (id : Nat)
 | ret
def BP (K : PS → Prop) (Q : PX → PS → Prop) : PX → PS → Prop
 | .normal, σ => K σ
 | .exit id, σ => Q (.exit id) σ
 | .ret, σ => Q .ret σ
def BQ (id : Nat) (Q : PX → PS → Prop) : PX → PS → Prop
 | .normal, σ => Q .normal σ
 | .exit j, σ => if j = id then Q .normal σ else Q (.exit j) σ
 | .ret, σ => Q .ret σ
def o6 (E : Env) (n tl : Nat) (ops : Array Oper) (draw : Bool) : Bool :=
 (ops.all fun o => match o.dst with | some d => decide (d < n) | none => true) &&
 (!draw || (rN E (if tl = 0 then ops.toList else ops.toList.take (ops.size - tl)) && (if tl = 0 then Region.noSelect ops && Region.lexHead .any ops 0 ops.size 0 (Array.replicate ops.size false) else decide (tl ≤ ops.size) && Region.lexTailB .any ops (ops.size - tl))))
def dZ (E : Env) (n : Nat) (tl : Nat → Nat) : Code → Bool
 | .region id ops draw => o6 E n (tl id) ops draw
 | .seq a b => dZ E n tl a && dZ E n tl b
 | .cond _ t e => dZ E n tl t && dZ E n tl e
 | .block _ c => dZ E n tl c
 | .loop c => dZ E n tl c
 | _ => true
section
variable {E : Env} {w0 : World} {S0 : dA} {n : Nat} {G : Gs}
theorem fR {ops : Array Oper} {K : PS → Prop} {Q : Exit → Act → World → Prop} (hK : ∀ σ' a' w', K σ' → Rel w0 S0 n G σ' a' w' → Q .normal a' w') :
  ∀ (l : List Oper) (σ : PS) (a : Act) (w : World), (∀ o ∈ l, ∀ t, o.dst = some t → t < n) → aL E ops.toList l K σ → Rel w0 S0 n G σ a w → wpList E.P ops Q l a w
 | [], σ, a, w, _, h, hR => hK _ _ _ h hR
 | o :: os, σ, a, w, hd, h, hR => by
  have hdo := hd o (by simp)
  have hds : ∀ o ∈ os, ∀ t, o.dst = some t → t < n := fun o ho => hd o (by simp [ho])
  have wanted : ∀ {σ}, dR E o (aL E ops.toList os K) σ → Rel w0 S0 n G σ a w → o.wp E.P a w (wpList E.P ops Q os) Q := fun hp hR =>
   vU hp hR hdo fun σ' a' w' hk j1 => fR hK os σ' a' w' hds hk j1
  unfold wpList
  simp only [aL] at h
  split at h
  ·rename_i hg
   rw [if_pos (by simp [Region.wanted, hg])]
   exact .inl (wanted h hR)
  ·rename_i j want hg
   split at h
   ·exact h.elim
   ·rename_i d SO
    have hd3 : (ops[j]?).bind (·.dst) = some d := by simpa using SO
    have skip : yielded ops a.tmps j ≠ some want → aL E ops.toList os K (σ.put o.dst (.eA [])) → (if Region.wanted o (yielded ops a.tmps) = true then o.wp E.P a w (wpList E.P ops Q os) Q ∨ (o.asks E.P a w ∧ LetsOut Q) else wpList E.P ops Q os (a.put o.dst undef) w) := by
     intro hy h2
     rw [if_neg (by simpa [Region.wanted, hg] using hy)]
     refine fR hK os _ _ w hds h2 ?_
     obtain ⟨⟨c, rfl, hr, eO, hI, hf, hG⟩, hn, eK⟩ := hR
     exact lN hf hG hn eK (rG.refl c) hI L2 hdo rfl (by simp [PS.put, hr]) eO
    obtain ⟨c, _, _, _, _, hf, _⟩ := hR.ex
    have hx := hf d
    rcases h with ⟨h1, h2⟩ | ⟨h1 | h1, h2⟩
    ·rw [h1] at hx
     rw [if_pos (by simp [Region.wanted, hg, gG hd3 hx])]
     exact .inl (wanted h2 hR)
    ·rw [h1] at hx
     exact skip (by rw [gG hd3 hx]; cases want <;> simp) h2
    ·rw [h1] at hx
     exact skip (by rw [rO hd3 hx]; simp) h2
theorem mV {ops : Array Oper} {c0 : Nat} {K : PS → Prop} : ∀ (l : List Oper) (k clk : Nat) (st : ST), (∀ j, j < l.length → l[j]? = ops[k + j]?) → rN E l = true → clk = c0 + rk E ops.toList k → aN E ops.toList clk k l K st → ag9 E .any ops c0 (fun st => K ⟨st.f, st.rows, c0 + rk E ops.toList (k + l.length)⟩) k l st
 | [], k, clk, st, _, _, hc, h => by subst hc; exact h
 | o :: os, k, clk, st, hl, HL, hc, h => by
  have ahb : rN E os = true := by simp only [rN, List.all_cons, Bool.and_eq_true] at HL ⊢; exact HL.2
  have ar7 : o.guard ≠ none → cV E o.op = false := fun hg => by
   simp only [rN, List.all_cons, Bool.and_eq_true] at HL
   cases hn : cV E o.op with
   | false => rfl
   | true => have := HL.1; rw [hn] at this; simp at this; exact absurd this.2 hg
  have h0 : ops[k]? = some o := by simpa using (hl 0 (by simp)).symm
  have uD : gO E o.op clk = c0 + rk E ops.toList (k + 1) := by rw [hc]; exact acf (by simpa using h0)
  have hl1 : ∀ j, j < os.length → os[j]? = ops[k + 1 + j]? := fun j hj => by have := hl (j + 1) (by simp; omega); simpa [Nat.add_assoc, Nat.add_comm 1 j] using this
  have e1 : k + (o :: os).length = k + 1 + os.length := by simp only [List.length_cons]; omega
  rw [e1]
  simp only [aN] at h
  split at h
  ·rename_i hg
   obtain ⟨v, u, h1, h2, h3⟩ := h
   exact ⟨true, v, u, ⟨by simp [gOK, hg], by rw [if_pos rfl, ← hc]; exact h1⟩, h2, mV os _ _ _ hl1 ahb uD h3⟩
  ·rename_i j want hg
   split at h
   ·exact h.elim
   ·rename_i d SO
    have hd3 : (ops[j]?).bind (·.dst) = some d := by simpa using SO
    rcases h with ⟨h1, v, u, q1, q2, q3⟩ | ⟨h1, h2⟩
    ·exact ⟨true, v, u, ⟨by simp only [gOK, hg]; exact ⟨d, hd3, .inl ⟨h1, trivial⟩⟩, by rw [if_pos rfl, ← hc]; exact q1⟩, q2, mV os _ _ _ hl1 ahb uD q3⟩
    ·exact ⟨false, .eA [], none, ⟨by simp only [gOK, hg]; exact ⟨d, hd3, .inr ⟨h1, trivial⟩⟩, by simp⟩, trivial, mV os _ _ _ hl1 ahb (by rw [← uD, yQ (ar7 (by rw [hg]; simp))]) h2⟩
theorem Rel.drew {σ : PS} {a : Act} {w : World} (h : Rel w0 S0 n G σ a w) : Rel w0 S0 n G σ a { w with drawn := w.drawn + 1 } := by
 obtain ⟨⟨c, rfl, hr, eO, hI, hf, hG⟩, hn, eK⟩ := h
 obtain ⟨uE, hA⟩ := hI.grow (w' := { c.w with drawn := c.w.drawn + 1 }) (S' := c.S) ⟨rfl, rfl, rfl, Nat.le_refl _, fun _ _ => rfl⟩ (fun _ _ h => h) (fun _ _ h => .inl h)
 exact ⟨⟨{ c with w := { c.w with drawn := c.w.drawn + 1 } }, rfl, hr, eO, uE, fun s => aI.rH hA _ _ (hf s), fun p hp => aI.rH hA _ _ (hG p hp)⟩, hn, eK⟩
theorem rC {id tl : Nat} {ops : Array Oper} {K : PS → Prop} {Q : Exit → Act → World → Prop} (fI : o6 E n tl ops true = true) {σ : PS} {a : Act} {w : World} (h : fB E tl ops.toList K σ) (hR : Rel w0 S0 n G σ a w)
  (hK : ∀ σ' a' w', K σ' → Rel w0 S0 n G σ' a' w' → Q .normal a' w') : (Code.region id ops true).wp E.P Q a w := by
 simp only [o6, Bool.and_eq_true, Bool.not_true, Bool.false_or] at fI
 obtain ⟨ahc, rD, fI⟩ := fI
 have hd : ∀ o, o ∈ ops → ∀ t, o.dst = some t → t < n := by
  intro o ho t ht
  have := Array.all_eq_true_iff_forall_mem.1 ahc o ho
  simpa [ht] using this
 refine wp_region_any E.mixed ?_
 have HM := hR.drew
 have hU0 : ∀ k (l : Array Bool), nJ w0 S0 n G (Ul E ops σ.clock k l) σ.f σ.rows a { w with drawn := w.drawn + 1 } := fun k l => HM.mono fun v hv => .inl hv
 have acm : ∀ (l : List Oper), rN E l = true → ∀ (i : Nat) (oi : Oper), l[i]? = some oi → cV E oi.op = true → oi.dst.isSome = true := fun l h i oi hi hn => by
  have := List.all_eq_true.1 h oi (List.mem_of_getElem? hi)
  rw [hn] at this; simp at this; exact Option.isSome_iff_exists.2 (by obtain ⟨x, hx⟩ := Option.isSome_iff_exists.1 this.1; exact ⟨x, hx⟩)
 unfold fB at h
 by_cases htl : tl = 0
 ·rw [if_pos htl] at h fI rD
  have nI : ∀ i oi, i < ops.size → ops[i]? = some oi → cV E oi.op = true → oi.dst.isSome = true := fun i oi _ hi => acm _ rD i oi (by simpa using hi)
  simp only [Bool.and_eq_true] at fI
  have hl := mV (c0 := σ.clock) ops.toList 0 _ _ (by simp) rD (by simp [rk]) h
  have WM : HeadInv .any ops ops.size (Array.replicate ops.size false) :=
   ⟨by simp, fun j oj _ hl => (by rw [getD_replicate_false] at hl; cases hl), fun t h1 h2 => by omega⟩
  have yT : ∀ aZ, HeadInv .any ops ops.size aZ → ∀ i, i < ops.size → aZ.getD i true = false → ∀ t, ops.size ≤ t → t ∉ Region.ready .any ops aZ := by
   intro aZ _ i _ _ t ht hr
   obtain ⟨_, o, ho, _⟩ := mem_ready.1 hr
   have := (Array.getElem?_eq_some_iff.1 ho).1
   omega
  have H := p7 (E := E) (md := .any) (g := 0) nI yT ops.toList 0 _ _ (by simp) (by simp) WM (by simpa using fI.2) hl
  have := jV (E := E) (md := .any) (g := 0) (Q := Q) (m := n) hd (fun aZ st a' w' hL j1 => by
   obtain ⟨h1, h2⟩ := hL
   exact ⟨by simpa [Region.seqB] using h1, hK _ _ _ h2 (j1.mono fun v hv => by have := L4 hv; simpa using this)⟩) _ _ _ _ _ (by simp) H (hU0 _ _)
  simpa using this
 ·rw [if_neg htl] at h fI rD
  have nI : ∀ i oi, i < ops.size - tl → ops[i]? = some oi → cV E oi.op = true → oi.dst.isSome = true := fun i oi h1 hi => acm _ rD i oi (by rw [List.getElem?_take, if_pos h1]; simpa using hi)
  simp only [Bool.and_eq_true, decide_eq_true_eq] at fI
  obtain ⟨hle, hB⟩ := fI
  simp only [Region.lexTailB, Bool.and_eq_true, decide_eq_true_eq] at hB
  obtain ⟨⟨⟨⟨ar8, vT⟩, hs⟩, hc⟩, ahd⟩ := hB
  have hlen : ops.toList.length = ops.size := by simp
  rw [hlen] at h
  have hl := mV (c0 := σ.clock) (ops.toList.take (ops.size - tl)) 0 _ _ (fun j hj => by
   have hj' : j < ops.size - tl := by simpa using hj
   simp [hj']) rD (by simp [rk]) h
  have WM : HeadInv .any ops (ops.size - tl) (Array.replicate ops.size false) :=
   ⟨by simp, fun j oj _ hl => (by rw [getD_replicate_false] at hl; cases hl), fun t _ ht => getD_in (by simpa using ht) (getD_replicate_false _ _)⟩
  have BJ : (ops.toList.take (ops.size - tl)).length = ops.size - tl := by simp
  have WN : (ops.toList.drop (ops.size - tl)).length = ops.size - (ops.size - tl) := by simp
  have H := p7 (E := E) (md := .any) (n := ops.size - tl) (g := ops.size - (ops.size - tl)) nI (fun aZ inv i hi K2 t ht => tail_waits hs hc vT inv _ i rfl hi K2 t ht) (ops.toList.take (ops.size - tl)) 0 _ _ (fun j hj => by
   rw [BJ] at hj
   simp [hj]) (by rw [BJ]; simp) WM (by rw [BJ]; exact ahd) hl
  have := jV (E := E) (md := .any) (g := ops.size - (ops.size - tl)) (Q := Q) (m := n) hd (fun aZ st a' w' hL j1 => by
   obtain ⟨h1, h2⟩ := hL
   have h3 := fR (ops := ops) (Q := Q) hK (ops.toList.drop (ops.size - tl)) _ a' w' (fun o ho => hd o (by simpa using List.mem_of_mem_drop ho)) h2 (j1.mono fun v hv => by have := L4 hv; simpa using this)
   have h4 := wpAny_of_seq (md := .any) (Q' := Q) (ops.toList.drop (ops.size - tl)) (ops.size - tl) aZ a' w' (fun j => by simp [List.getElem?_drop]) (by rw [WN]; exact h1) h3
   rwa [WN] at h4) _ _ _ _ _ (by simp) H (hU0 _ _)
  rw [BJ, show ops.size - tl + (ops.size - (ops.size - tl)) = ops.size by omega] at this
  exact this
def ahe : PX → Exit
 | .normal => .normal
 | .exit id => .exit id
 | .ret => .ret
end
def oB (E : Env) (σ : PS) : List ResultVar → (List PV → Prop) → Prop
 | [], K => K []
 | .tmp t :: rs, K => oB E σ rs fun vs => K (σ.f t :: vs)
 | .cell a t :: rs, K => ∃ v, qW E t σ.rows (σ.f a) v ∧ oB E σ rs fun vs => K (v :: vs)
def HN : List PV → PV
 | [x] => x
 | l => .eA l
def WO (E : Env) (rs : List ResultVar) (r : PV) (σ : PS) : Prop :=
 oB E σ rs fun vs => dK σ.rows (vs.flatMap dD) ∧ (vs.map (pz σ.rows)).all eY = true ∧ r = HN (vs.map (pz σ.rows))
def aco (E : Env) (rs : List ResultVar) (r : PV) : PX → PS → Prop
 | .normal, σ => WO E rs r σ
 | .ret, σ => WO E rs r σ
 | .exit _, _ => False
def CM (args : List PV) : PS := ⟨fun s => args.getD s .undef, fun _ => none, 0⟩
section
variable {E : Env} {w0 : World} {S0 : dA} {c : Cx}
theorem p8 (hI : Inv w0 S0 c) {clk : Nat} {a : Act} {f : Nat → PV} (hf : ∀ s, aI c (f s) (a.tmps.getD s undef)) {g : ResultVar → Sem Value} (WQ : ∀ t, g (.tmp t) = pure (a.tmps.getD t undef))
  (oX : ∀ x t, g (.cell x t) = do loadVar t (← asAddr (a.tmps.getD x undef))) : ∀ (rs : List ResultVar) (K : List PV → Prop), oB E ⟨f, c.rows, clk⟩ rs K →
  ∃ vs us, K vs ∧ a9 (aI c) vs us ∧ (rs.mapM g : Sem (List Value)).run E.P c.w = .ok us c.w
 | [], K, h => ⟨[], [], h, trivial, by simp⟩
 | .tmp t :: rs, K, h => by
  obtain ⟨vs, us, h1, h2, h3⟩ := p8 hI hf WQ oX rs _ h
  exact ⟨f t :: vs, a.tmps.getD t undef :: us, h1, ⟨hf t, h2⟩, by
   rw [List.mapM_cons, WQ, Sem.run_bind, Sem.run_pure, Result.andThen_ok, Sem.run_bind, h3, Result.andThen_ok, Sem.run_pure]⟩
 | .cell x t :: rs, K, h => by
  obtain ⟨v, hv, h⟩ := h
  obtain ⟨vs, us, h1, h2, h3⟩ := p8 hI hf WQ oX rs _ h
  obtain ⟨u, hu, hr⟩ := CB hI (hf x) hv
  refine ⟨v :: vs, u :: us, h1, ⟨hr, h2⟩, ?_⟩
  have SD : (do loadVar t (← asAddr (a.tmps.getD x undef)) : Sem Value).run E.P c.w = .ok u c.w := by
   simp only [Instr.loadAt, Sem.run_bind] at hu ⊢
   cases hx : a.tmps.getD x undef with
   | pointer p =>
    cases p with
    | some ad => rw [hx] at hu; simpa [Instr.sureAddr, asAddr] using hu
    | none => rw [hx] at hu; simp [Instr.sureAddr, stuck, Result.andThen] at hu
   | _ => rw [hx] at hu; simp [Instr.sureAddr, stuck, Result.andThen] at hu
  rw [List.mapM_cons, oX]
  simp only [Sem.run_bind] at SD ⊢
  rw [SD, Result.andThen_ok, h3, Result.andThen_ok, Sem.run_pure]
theorem L5 {CN : FuncId} {fn : Func} {code : Code} {args : List PV} {r : PV} (h1 : E.P.funcs[CN]? = some fn) (h2 : fn.body = some code) (h3 : (fn.name == "runtime.NumGoroutine") = false) (fM : args.length ≤ fn.ntmps)
  (h : ∀ (w0 : World) (S0 : dA) (a : Act) (w : World) (Q' : Exit → Act → World → Prop), Rel w0 S0 fn.ntmps Gs.none (CM args) a w → (∀ x σ' a' w', aco E fn.results.toList r x σ' → Rel w0 S0 fn.ntmps Gs.none σ' a' w' → Q' (ahe x) a' w') → code.wp E.P Q' a w) : aK E.P CN args r := by
 refine ⟨⟨fn, code, h1, h2, h3⟩, fun w S vs hS eZ => ?_⟩
 have yI := cE.1 eZ
 refine calls_of_wp h1 h2 ?_
 have LI : vs.length = args.length := yI.length.symm
 let c0 : Cx := ⟨S, w, fun _ => .slice none 0 0, fun _ => none, fun _ => False⟩
 have hI0 : Inv w S c0 := ⟨Below.refl _ _, fun _ _ h => h, fun _ _ h => .inl h, hS, fun _ _ h => by simp [c0] at h, fun _ _ h => by simp [c0] at h, fun _ _ _ _ _ h => by simp [c0] at h⟩
 have HM : Rel w S fn.ntmps Gs.none (CM args) { tmps := vs.toArray ++ Array.replicate (fn.ntmps - vs.toArray.size) undef, defers := [] } w := by
  refine ⟨⟨c0, rfl, rfl, fun _ h => h.elim, hI0, fun s => ?_, fun p hp => (Gs.HC hp).elim⟩, by simp; omega, rfl⟩
  simp only [CM]
  by_cases hs : s < args.length
  ·obtain ⟨u, hu, hr⟩ := yI.get (List.getElem?_eq_getElem hs)
   have e1 : args.getD s .undef = args[s] := by simp [List.getD, List.getElem?_eq_getElem hs]
   have e2 : (vs.toArray ++ Array.replicate (fn.ntmps - vs.toArray.size) undef).getD s undef = u := by
    have : s < vs.length := by omega
    simp [this] at hu ⊢
    simp [Array.getElem?_append, this, hu]
   rw [e1]
   show aI c0 args[s] ((vs.toArray ++ Array.replicate (fn.ntmps - vs.toArray.size) undef).getD s undef)
   rw [e2]
   exact aI.iW hr
  ·have e1 : args.getD s .undef = .undef := by simp [List.getD, List.getElem?_eq_none (show args.length ≤ s by omega)]
   rw [e1]
   simp [aI, aP]
 refine h _ _ _ _ _ HM ?_
 have fin : ∀ σ' a' w', WO E fn.results.toList r σ' → Rel w S fn.ntmps Gs.none σ' a' w' → a'.defers = [] ∧ ∃ v, (results fn a'.tmps).run E.P w' = .ok v w' ∧ (∃ v', Ending.returned v = .returned v' ∧ Below w.heap.size w w' ∧
   ∃ S' : dA, (∀ b o, S b o → S' b o) ∧ (∀ b o, S' b o → S b o ∨ (w.heap.size ≤ b ∧ b < w'.heap.size)) ∧ cN S' w' r v') := by
  rintro σ' a' w' hp ⟨⟨c, rfl, hr, eO, hI, hf, _⟩, hn, eK⟩
  refine ⟨eK, ?_⟩
  unfold WO at hp
  have uC : oB E ⟨σ'.f, c.rows, σ'.clock⟩ fn.results.toList fun vs => dK c.rows (vs.flatMap dD) ∧ (vs.map (pz c.rows)).all eY = true ∧ r = HN (vs.map (pz c.rows)) := by
   rw [hr]; exact hp
  have amk : ∃ vs us, (dK c.rows (vs.flatMap dD) ∧ (vs.map (pz c.rows)).all eY = true ∧ r = HN (vs.map (pz c.rows))) ∧ a9 (aI c) vs us ∧
    (results fn a'.tmps).run E.P c.w = .ok (if h : us.toArray.size = 1 then us.toArray[0] else .tuple us.toArray) c.w := by
   have key : ∀ g : ResultVar → Sem Value, (∀ t, g (.tmp t) = pure (a'.tmps.getD t undef)) → (∀ x t, g (.cell x t) = do loadVar t (← asAddr (a'.tmps.getD x undef))) →
     ∃ vs us, (dK c.rows (vs.flatMap dD) ∧ (vs.map (pz c.rows)).all eY = true ∧ r = HN (vs.map (pz c.rows))) ∧ a9 (aI c) vs us ∧
      (do let vs ← fn.results.mapM g; pure (if h : vs.size = 1 then vs[0] else .tuple vs) : Sem Value).run E.P c.w = .ok (if h : us.toArray.size = 1 then us.toArray[0] else .tuple us.toArray) c.w := by
    intro g WQ oX
    obtain ⟨vs, us, g1, g4, g5⟩ := p8 hI hf WQ oX _ _ uC
    refine ⟨vs, us, g1, g4, ?_⟩
    have : (fn.results.mapM g).run E.P c.w = .ok us.toArray c.w := by
     rw [Array.mapM_eq_mapM_toList]
     simp [g5]
    rw [Sem.run_bind, this, Result.andThen_ok, Sem.run_pure]
   unfold results
   exact key _ (fun _ => rfl) (fun _ _ => rfl)
  obtain ⟨vs, us, ⟨g1, g2, g3⟩, g4, iX⟩ := amk
  have HE := hI.freeze (vs.flatMap dD)
  have rP : a9 (cN (LS c (vs.flatMap dD)) c.w) (vs.map (pz c.rows)) us := by
   refine a9.cW (by simp [g4.length]) fun k p u hp hu => ?_
   simp at hp
   obtain ⟨q, hq, rfl⟩ := hp
   obtain ⟨u', q1, q2⟩ := g4.get hq
   rw [hu] at q1; cases q1
   exact ED hI g1 q2 (fun id gK => by simp only [List.mem_flatMap]; exact ⟨q, List.mem_of_getElem? hq, gK⟩) (List.all_eq_true.1 g2 _ (by simp; exact ⟨q, List.mem_of_getElem? hq, rfl⟩))
  refine ⟨_, iX, _, rfl, hI.below, LS c (vs.flatMap dD), fun b o h => HE.ext b o h, fun b o h => HE.new b o h, ?_⟩
  rw [g3]
  have hl := rP.length
  cases hm : vs.map (pz c.rows) with
  | nil =>
   rw [hm] at rP hl
   have : us = [] := List.eq_nil_of_length_eq_zero (by simpa using hl.symm)
   subst this
   simp only [HN, cN]
   exact ⟨[], by simp, by simp [bA]⟩
  | cons p ps =>
   rw [hm] at rP hl
   match us, rP with
   | u :: us, rP =>
    cases ps with
    | nil =>
     match us, rP with
     | [], rP => simpa [HN] using rP.1
    | cons q qs =>
     have h2 : ¬ (u :: us).toArray.size = 1 := by simp at hl ⊢; intro h; subst h; simp at hl
     rw [dif_neg h2]
     simp only [HN, cN]
     exact ⟨_, rfl, cE.2 rP⟩
 intro x σ' a' w' hx j1
 cases x with
 | normal => exact fin σ' a' w' hx j1
 | ret => exact fin σ' a' w' hx j1
 | exit id => exact hx.elim
end
section
variable {P : Program} {t : TypeId}
theorem aD {n : Nat} {v : Value} {z : List PV} (h : (P.info? t).bind (fun i => i.zero.map fun v => (i.size, v)) = some (n, v)) (hz : v.cells.toList.map iA = z) (h1 : v.cells.all (·.oneCell') = true) (hl : z.length = n) (hp : 0 < n) : kA P t n z := by
 refine ⟨?_, hl, hp⟩
 cases hi : P.info? t with
 | none => simp [hi] at h
 | some i =>
  cases qT : i.zero with
  | none => simp [hi, qT] at h
  | some v0 =>
   simp [hi, qT] at h
   obtain ⟨rfl, rfl⟩ := h
   exact ⟨i, v0, rfl, qT, rfl, hz, h1⟩
theorem cK {b : Nat} (h : (P.info? t).map (·.bytes) = some b) : ∃ i, P.info? t = some i ∧ i.bytes = b := by
 cases hi : P.info? t with
 | none => simp [hi] at h
 | some i => exact ⟨i, rfl, by simpa [hi] using h⟩
theorem SP {n : Nat} (h : (P.info? t).map (·.size) = some n) : ∃ i, P.info? t = some i ∧ i.size = n := by
 cases hi : P.info? t with
 | none => simp [hi] at h
 | some i => exact ⟨i, rfl, by simpa [hi] using h⟩
theorem WR (h : (P.underlying t).isSome = true) : ∃ d, P.underlying t = some d := Option.isSome_iff_exists.1 h
def L6 (P : Program) (f : Field) (x : Nat × Nat × Bool) : Bool :=
 f.offset == x.1 && (P.info? f.type).map (·.size) == some x.2.1 && decide (0 < x.2.1) && uM P f.type == x.2.2 && (P.underlying f.type).isSome
def p9 (P : Program) : List Field → List (Nat × Nat × Bool) → Bool
 | [], [] => true
 | f :: fs, x :: xs => L6 P f x && p9 P fs xs
 | _, _ => false
theorem SR {f : Field} {x : Nat × Nat × Bool} (h : L6 P f x = true) : lL P f x := by
 simp only [L6, Bool.and_eq_true, beq_iff_eq, decide_eq_true_eq] at h
 obtain ⟨⟨⟨⟨h1, h2⟩, h3⟩, h4⟩, h5⟩ := h
 exact ⟨h1, SP h2, h3, h4, WR h5⟩
theorem yU : ∀ {fs : List Field} {xs : List (Nat × Nat × Bool)}, p9 P fs xs = true → a9 (lL P) fs xs
 | [], [], _ => trivial
 | f :: fs, x :: xs, h => by
  simp only [p9, Bool.and_eq_true] at h
  exact ⟨SR h.1, yU h.2⟩
 | [], _ :: _, h => by simp [p9] at h
 | _ :: _, [], h => by simp [p9] at h
def PR (P : Program) (t : TypeId) (xs : List (Nat × Nat × Bool)) : Bool :=
 match P.underlying t with
 | some (.struct fields) => p9 P fields.toList xs
 | _ => false
theorem bC {xs : List (Nat × Nat × Bool)} (h : PR P t xs = true) : ∃ fields : Array Field, P.underlying t = some (.struct fields) ∧ a9 (lL P) fields.toList xs := by
 unfold PR at h
 split at h
 ·rename_i fields hu; exact ⟨fields, hu, yU h⟩
 ·cases h
end
def W (E : Env) (n : Nat) (tl : Nat → Nat) (c : Code) (Q : PX → PS → Prop) (σ : PS) : Prop :=
 dZ E n tl c = true → ∀ (w0 : World) (S0 : dA) (G : Gs) (a : Act) (w : World) (Q' : Exit → Act → World → Prop), Rel w0 S0 n G σ a w →
  (∀ x σ' a' w', Q x σ' → Rel w0 S0 n G σ' a' w' → Q' (ahe x) a' w') → c.wp E.P Q' a w
def Gh (n : Nat) (σ σ' : PS) : Prop := ∀ (w0 : World) (S0 : dA) (G : Gs) (a : Act) (w : World), Rel w0 S0 n G σ a w → Rel w0 S0 n G σ' a w
section
variable {E : Env} {n : Nat} {tl : Nat → Nat} {Q : PX → PS → Prop} {σ : PS}
theorem W.ghost {c : Code} {σ' : PS} (h : Gh n σ σ') (hw : W E n tl c Q σ') : W E n tl c Q σ := fun fI w0 S0 G a w Q' hR hQ => hw fI w0 S0 G a w Q' (h _ _ _ _ _ hR) hQ
theorem W.mono {c : Code} {Q2 : PX → PS → Prop} (hw : W E n tl c Q2 σ) (h : ∀ x σ, Q2 x σ → Q x σ) : W E n tl c Q σ := fun fI w0 S0 G a w Q' hR hQ => hw fI w0 S0 G a w Q' hR fun x σ' a' w' hx => hQ x σ' a' w' (h x σ' hx)
theorem W.skip (h : Q .normal σ) : W E n tl .skip Q σ := fun _ _ _ _ a w _ hR hQ => wp_skip (hQ .normal σ a w h hR)
theorem W.ret (h : Q .ret σ) : W E n tl .ret Q σ := fun _ _ _ _ a w _ hR hQ => wp_ret (hQ .ret σ a w h hR)
theorem W.exit {id : Nat} (h : Q (.exit id) σ) : W E n tl (.exit id) Q σ := fun _ _ _ _ a w _ hR hQ => wp_exit (hQ (.exit id) σ a w h hR)
theorem W.HO {id : Nat} {ops : List Oper} (h : ∀ K : PS → Prop, (∀ σ, Q .normal σ → K σ) → aL E ops ops K σ) : W E n tl (.region id ops.toArray false) Q σ := by
 intro fI w0 S0 G a w Q' hR hQ
 simp only [dZ, o6, Bool.and_eq_true] at fI
 refine wp_region_list (fR (fun σ' a' w' hk j1 => hQ .normal σ' a' w' hk j1) _ σ a w (fun o ho t ht => ?_) (h _ fun _ h => h) hR)
 have := Array.all_eq_true_iff_forall_mem.1 fI.1 o (by simpa using ho)
 simpa [ht] using this
theorem W.WS {id : Nat} {ops : List Oper} (h : ∀ K : PS → Prop, (∀ σ, Q .normal σ → K σ) → fB E (tl id) ops K σ) : W E n tl (.region id ops.toArray true) Q σ := by
 intro fI w0 S0 G a w Q' hR hQ
 exact rC (by simpa [dZ] using fI) (h _ fun _ h => h) hR fun σ' a' w' hk j1 => hQ .normal σ' a' w' hk j1
theorem W.seq {x y : Code} (h : W E n tl x (BP (W E n tl y Q) Q) σ) : W E n tl (.seq x y) Q σ := by
 intro fI w0 S0 G a w Q' hR hQ
 simp only [dZ, Bool.and_eq_true] at fI
 refine wp_seq (h fI.1 w0 S0 G a w _ hR fun x σ' a' w' hx j1 => ?_)
 cases x with
 | normal => exact hx fI.2 w0 S0 G a' w' _ j1 hQ
 | exit id => exact hQ (.exit id) σ' a' w' hx j1
 | ret => exact hQ .ret σ' a' w' hx j1
theorem W.L7 {id : Nat} {ops : List Oper} {y : Code} (h : ∀ K : PS → Prop, (∀ σ, W E n tl y Q σ → K σ) → aL E ops ops K σ) : W E n tl (.seq (.region id ops.toArray false) y) Q σ :=
 W.seq (W.HO h)
theorem W.WT {id : Nat} {ops : List Oper} {y : Code} (h : ∀ K : PS → Prop, (∀ σ, W E n tl y Q σ → K σ) → fB E (tl id) ops K σ) : W E n tl (.seq (.region id ops.toArray true) y) Q σ :=
 W.seq (W.WS h)
theorem W.cond {c : Operand} {t e : Code} (h : ∃ b, aR σ.f c = .bool b ∧ (b = true → W E n tl t Q σ) ∧ (b = false → W E n tl e Q σ)) : W E n tl (.cond c t e) Q σ := by
 intro fI w0 S0 G a w Q' hR hQ
 simp only [dZ, Bool.and_eq_true] at fI
 obtain ⟨b, hb, h1, h2⟩ := h
 obtain ⟨cx, _, _, _, _, hf, _⟩ := hR.ex
 have := kI hf c
 rw [hb, cX] at this
 refine wp_cond this ?_
 cases b with
 | true => exact h1 rfl fI.1 w0 S0 G a w Q' hR hQ
 | false => exact h2 rfl fI.2 w0 S0 G a w Q' hR hQ
theorem W.block {id : Nat} {c : Code} (h : W E n tl c (BQ id Q) σ) : W E n tl (.block id c) Q σ := by
 intro fI w0 S0 G a w Q' hR hQ
 refine wp_block (h fI w0 S0 G a w _ hR fun x σ' a' w' hx j1 => ?_)
 cases x with
 | normal => exact hQ .normal σ' a' w' hx j1
 | exit j =>
  simp only [BQ] at hx
  simp only [ahe, Exit.inBlock]
  split at hx
  ·rename_i hj; rw [if_pos hj]; exact hQ .normal σ' a' w' hx j1
  ·rename_i hj; rw [if_neg hj]; exact hQ (.exit j) σ' a' w' hx j1
 | ret => exact hQ .ret σ' a' w' hx j1
theorem W.loop {c : Code} (I : Nat → PS → Prop) (k : Nat) (h0 : I k σ) (h1 : ∀ k σ, I k σ → W E n tl c (BP (fun σ' => ∃ m, m < k ∧ I m σ') Q) σ) : W E n tl (.loop c) Q σ := by
 intro fI w0 S0 G a w Q' hR hQ
 refine wp_loop_ghost (fun k a w => ∃ σ, I k σ ∧ Rel w0 S0 n G σ a w) k ⟨σ, h0, hR⟩ ?_
 rintro k a w ⟨σ, hI, hR⟩
 refine h1 k σ hI fI w0 S0 G a w _ hR fun x σ' a' w' hx j1 => ?_
 cases x with
 | normal => obtain ⟨m, hm, uE⟩ := hx; exact ⟨m, hm, σ', uE, j1⟩
 | exit id => exact hQ (.exit id) σ' a' w' hx j1
 | ret => exact hQ .ret σ' a' w' hx j1
end
theorem WU {E : Env} {CN : FuncId} {fn : Func} {code : Code} (tl : Nat → Nat) {args : List PV} {r : PV} (h1 : E.P.funcs[CN]? = some fn) (h2 : fn.body = some code) (h3 : (fn.name == "runtime.NumGoroutine") = false)
  (fI : dZ E fn.ntmps tl code = true) (fM : args.length ≤ fn.ntmps) (h : W E fn.ntmps tl code (aco E fn.results.toList r) (CM args)) : aK E.P CN args r :=
 L5 h1 h2 h3 fM fun w0 S0 a w Q' hR hQ => h fI w0 S0 Gs.none a w Q' hR hQ
def go (P : Prop) : Prop := P
def aU (R : PV → Prop) (K : PV → Prop) : Prop := ∃ v, R v ∧ K v
def gL (p : PV) (want : Bool) (A B : Prop) : Prop := ∃ t, p = .bool t ∧ (t = want → A) ∧ (t = (!want) → B)
def stepG (p : PV) (want : Bool) (A B : Prop) : Prop := (p = .bool want ∧ A) ∨ ((p = .bool (!want) ∨ p = .eA []) ∧ B)
def aH (A B : Prop) : Prop := A ∧ B
@[congr] theorem aeW {R R' K : PV → Prop} (h : ∀ v, R v = R' v) : aU R K = aU R' K := by rw [show R = R' from funext h]
@[congr] theorem aeX {p p' : PV} {want : Bool} {A B : Prop} (h : p = p') : gL p want A B = gL p' want A B := by rw [h]
@[congr] theorem aeY {p p' : PV} {want : Bool} {A B : Prop} (h : p = p') : stepG p want A B = stepG p' want A B := by rw [h]
@[congr] theorem aeZ {A A' B : Prop} (h : A = A') : aH A B = aH A' B := by rw [h]
@[congr] theorem ahf {E : Env} {ops l : List Oper} {K : PS → Prop} {σ σ' : PS} (h : σ = σ') : aL E ops l K σ = aL E ops l K σ' := by rw [h]
@[congr] theorem ahg {E : Env} {ops l : List Oper} {clk k k' : Nat} {K : PS → Prop} {σ σ' : ST} (hk : k = k') (h : σ = σ') : aN E ops clk k l K σ = aN E ops clk k' l K σ' := by rw [hk, h]
@[congr] theorem ahh {md : Region.Mode} {ops : List Oper} {j j' k k' : Nat} (hj : j = j') (hk : k = k') : nK md ops j k = nK md ops j' k' := by rw [hj, hk]
@[congr] theorem aka {md : Region.Mode} {ops : List Oper} {i i' id iS : Nat} {t t' : Nat → Nat → Prop} (hi : i = i') (gK : id = iS) (ht : t = t') : yP md ops i id t = yP md ops i' iS t' := by rw [hi, gK, ht]
@[congr] theorem ahj {md : Region.Mode} {ops : List Oper} {i i' : Nat} {t t' : Nat → Nat → Prop} {rows rows' : Rows} (hi : i = i') (ht : t = t') (hr : rows = rows') : dM md ops i t rows = dM md ops i' t' rows' := by rw [hi, ht, hr]
@[congr] theorem abC {E : Env} {tl : Nat} {l : List Oper} {K : PS → Prop} {σ σ' : PS} (h : σ = σ') : fB E tl l K σ = fB E tl l K σ' := by rw [h]
@[congr] theorem ap0 {E : Env} {n : Nat} {tl : Nat → Nat} {c : Code} {Q : PX → PS → Prop} {σ σ' : PS} (h : σ = σ') : W E n tl c Q σ = W E n tl c Q σ' := by rw [h]
theorem iZ {t : PV} {K : PV → Prop} : aU (fun v => v = t) K = K t := by simp [aU]
theorem SS {t : PV} {K : PV → Prop} : aU (fun v => t = v) K = K t := by simp [aU]
theorem iJ {c : Prop} {R K : PV → Prop} : aU (fun v => c ∧ R v) K = aH c (aU R K) := by
 apply propext; simp only [aU, aH]
 constructor
 ·rintro ⟨v, ⟨h1, h2⟩, h3⟩; exact ⟨h1, v, h2, h3⟩
 ·rintro ⟨h1, v, h2, h3⟩; exact ⟨v, ⟨h1, h2⟩, h3⟩
theorem WV {α : Type} {R : α → PV → Prop} {K : PV → Prop} : aU (fun v => ∃ x, R x v) K = ∃ x, aU (R x) K := by
 apply propext; simp only [aU]
 constructor
 ·rintro ⟨v, ⟨x, h2⟩, h3⟩; exact ⟨x, v, h2, h3⟩
 ·rintro ⟨x, v, h2, h3⟩; exact ⟨v, ⟨x, h2⟩, h3⟩
theorem L8 {B : Prop} : aH True B = B := by simp [aH]
theorem WW {A B : Prop} : gL (.bool true) true A B = A := by simp [gL]
theorem WX {A B : Prop} : gL (.bool true) false A B = B := by simp [gL]
theorem WY {A B : Prop} : gL (.bool false) true A B = B := by simp [gL]
theorem WZ {A B : Prop} : stepG (.bool true) true A B = A := by simp [stepG]
theorem W1 {A B : Prop} : stepG (.bool true) false A B = B := by simp [stepG]
theorem W2 {A B : Prop} : stepG (.bool false) true A B = B := by simp [stepG]
theorem W3 {A B : Prop} : stepG (.bool false) false A B = A := by simp [stepG]
theorem W4 {w : Bool} {A B : Prop} : stepG (.eA []) w A B = B := by simp [stepG]
theorem W5 {A B : Prop} : gL (.bool false) false A B = A := by simp [gL]
theorem yV {f : Nat → PV} {d j : Nat} {v : PV} : put f (some d) v j = if j = d then v else f j := rfl
theorem W6 {f : Nat → PV} {v : PV} : put f none v = f := rfl
theorem ahk {α : Type} {f : Nat → α} {i j : Nat} {x : α} : dF f i x j = if j = i then x else f j := rfl
def fa : List (Nat × PV) → Nat → PV
 | [], _ => .undef
 | (i, v) :: l, j => if j = i then v else fa l j
theorem L9 {j : Nat} : fa [] j = .undef := rfl
theorem EN {i j : Nat} {v : PV} {l : List (Nat × PV)} : fa ((i, v) :: l) j = if j = i then v else fa l j := rfl
section
variable {E : Env} {ops os : List Oper} {K : PS → Prop} {f : Nat → PV} {rows : Rows} {clk : Nat} {d : Option Tmp} {ty : TypeId} {pos : String} {af : Array Edge}
theorem aC (n : Nat) (l : List Nat) : Gh n ⟨f, rows, clk⟩ ⟨fa (l.map fun i => (i, f i)), rows, clk⟩ := by
 rintro w0 S0 G a w ⟨⟨c, h1, h2, h3, h4, h5, h6⟩, h7, h8⟩
 refine ⟨⟨c, h1, h2, h3, h4, fun s => ?_, h6⟩, h7, h8⟩
 have : fa (l.map fun i => (i, f i)) s = f s ∨ fa (l.map fun i => (i, f i)) s = .undef := by
  induction l with
  | nil => exact .inr rfl
  | cons i l ih =>
   simp only [List.map_cons, fa]
   split
   ·rename_i h; rw [h]; exact .inl rfl
   ·exact ih
 rcases this with h | h
 ·simp only; rw [h]; exact h5 s
 ·simp only; rw [h]; simp [aI, aP]
theorem W.live {n : Nat} {tl : Nat → Nat} {c : Code} {Q : PX → PS → Prop} (l : List Nat) (h : W E n tl c Q ⟨fa (l.map fun i => (i, f i)), rows, clk⟩) : W E n tl c Q ⟨f, rows, clk⟩ := W.ghost (aC n l) h
theorem MA {op : Op} {j : Nat} {want : Bool} : aL E ops (⟨d, op, ty, pos, af, some (j, want)⟩ :: os) K ⟨f, rows, clk⟩ =
  match (ops[j]?).bind (·.dst) with
  | none => False
  | some e => stepG (f e) want (aL E ops (⟨d, op, ty, pos, af, none⟩ :: os) K ⟨f, rows, clk⟩) (aL E ops os K ⟨put f d (.eA []), rows, clk⟩) := by
 simp only [aL]
 cases hx : (ops[j]?).bind (·.dst) with
 | none => rfl
 | some e => rfl
theorem bX {R : PV → Prop} {k : PV → Prop} (h : ∀ v, R v ↔ k v) : (∃ v u, (R v ∧ u = none) ∧ K ⟨put f d v, fA rows u, clk⟩) = aU k fun v => K ⟨put f d v, rows, clk⟩ := by
 apply propext; simp only [aU]
 constructor
 ·rintro ⟨v, u, ⟨h1, rfl⟩, h2⟩; exact ⟨v, (h v).1 h1, h2⟩
 ·rintro ⟨v, h1, h2⟩; exact ⟨v, none, ⟨(h v).2 h1, rfl⟩, h2⟩
theorem SU {x : Operand} : aL E ops (⟨d, .move x, ty, pos, af, none⟩ :: os) K ⟨f, rows, clk⟩ = aL E ops os K ⟨put f d (aR f x), rows, clk⟩ := by
 simp only [aL, dR, ys, yv]
 rw [bX (k := fun v => v = aR f x) (fun v => Iff.rfl), iZ]
theorem HP {x : Operand} : aL E ops (⟨d, .assign x, ty, pos, af, none⟩ :: os) K ⟨f, rows, clk⟩ = aL E ops os K ⟨put f d (aR f x), rows, clk⟩ := by
 simp only [aL, dR, ys, yv]
 rw [bX (k := fun v => v = aR f x) (fun v => Iff.rfl), iZ]
theorem SV {c a b : Operand} : aL E ops (⟨d, .pick c a b, ty, pos, af, none⟩ :: os) K ⟨f, rows, clk⟩ = gL (aR f c) true (aL E ops os K ⟨put f d (aR f a), rows, clk⟩) (aL E ops os K ⟨put f d (aR f b), rows, clk⟩) := by
 simp only [aL, dR, ys, yv]
 rw [bX (fun v => Iff.rfl)]
 apply propext; simp only [aU, gL]
 constructor
 ·rintro ⟨v, ⟨t, h1, rfl⟩, h2⟩
  refine ⟨t, h1, fun h => ?_, fun h => ?_⟩
  ·subst h; exact h2
  ·subst h; exact h2
 ·rintro ⟨t, h1, h2, h3⟩
  cases t with
  | true => exact ⟨_, ⟨true, h1, rfl⟩, h2 rfl⟩
  | false => exact ⟨_, ⟨false, h1, rfl⟩, h3 rfl⟩
theorem W7 {op : BinOp} {t t2 : TypeId} {x y : Operand} : aL E ops (⟨d, .binOp op t x y t2, ty, pos, af, none⟩ :: os) K ⟨f, rows, clk⟩ = aU (fun v => D6 E op t (aR f x) (aR f y) v) fun v => aL E ops os K ⟨put f d v, rows, clk⟩ := by
 simp only [aL, dR, ys, yv]
 rw [bX (fun v => Iff.rfl)]
theorem acp {op : UnOp} {t : TypeId} {x : Operand} : aL E ops (⟨d, .unOp op t x, ty, pos, af, none⟩ :: os) K ⟨f, rows, clk⟩ = aU (fun v => yun op (aR f x) v) fun v => aL E ops os K ⟨put f d v, rows, clk⟩ := by
 simp only [aL, dR, ys, yv]
 rw [bX (k := fun v => yun op (aR f x) v) (fun v => Iff.rfl)]
theorem SW {s t : TypeId} {x : Operand} : aL E ops (⟨d, .convert s t x, ty, pos, af, none⟩ :: os) K ⟨f, rows, clk⟩ = aU (fun v => qY (E.ty s) (E.ty t) (aR f x) v) fun v => aL E ops os K ⟨put f d v, rows, clk⟩ := by
 simp only [aL, dR, ys, yv]
 rw [bX (k := fun v => qY (E.ty s) (E.ty t) (aR f x) v) (fun v => Iff.rfl)]
theorem EO {i : Nat} {x : Operand} : aL E ops (⟨d, .extract x i, ty, pos, af, none⟩ :: os) K ⟨f, rows, clk⟩ = aU (fun v => LC i (aR f x) v) fun v => aL E ops os K ⟨put f d v, rows, clk⟩ := by
 simp only [aL, dR, ys, yv]
 rw [bX (k := fun v => LC i (aR f x) v) (fun v => Iff.rfl)]
theorem SX {t : TypeId} {x : Operand} : aL E ops (⟨d, .load t x, ty, pos, af, none⟩ :: os) K ⟨f, rows, clk⟩ = aU (fun v => qW E t rows (aR f x) v) fun v => aL E ops os K ⟨put f d v, rows, clk⟩ := by
 simp only [aL, dR, ys, yv]
 rw [bX (fun v => Iff.rfl)]
theorem MB {t : TypeId} {i : Nat} {x : Operand} : aL E ops (⟨d, .field t x i, ty, pos, af, none⟩ :: os) K ⟨f, rows, clk⟩ = aU (fun v => rI E t i (aR f x) v) fun v => aL E ops os K ⟨put f d v, rows, clk⟩ := by
 simp only [aL, dR, ys, yv]
 rw [bX (fun v => Iff.rfl)]
theorem yW {t : TypeId} {i : Nat} {x : Operand} : aL E ops (⟨d, .fieldAddr t x i, ty, pos, af, none⟩ :: os) K ⟨f, rows, clk⟩ = aU (fun v => eH E t rows i (aR f x) v) fun v => aL E ops os K ⟨put f d v, rows, clk⟩ := by
 simp only [aL, dR, ys, yv]
 rw [bX (fun v => Iff.rfl)]
theorem yX {t : TypeId} {x y : Operand} : aL E ops (⟨d, .indexAddr t x y, ty, pos, af, none⟩ :: os) K ⟨f, rows, clk⟩ = aU (fun v => eI E t rows (aR f x) (aR f y) v) fun v => aL E ops os K ⟨put f d v, rows, clk⟩ := by
 simp only [aL, dR, ys, yv]
 rw [bX (fun v => Iff.rfl)]
theorem MC {t : TypeId} {x : Operand} {lo hi mx : Option Operand} : aL E ops (⟨d, .slice t x lo hi mx, ty, pos, af, none⟩ :: os) K ⟨f, rows, clk⟩ = aU (fun v => mF E t rows (aR f x) (lo.map (aR f)) (hi.map (aR f)) (mx.map (aR f)) v) fun v => aL E ops os K ⟨put f d v, rows, clk⟩ := by
 simp only [aL, dR, ys, yv]
 rw [bX (fun v => Iff.rfl)]
theorem MD {t : TypeId} {parts : Array (Nat × Operand)} : aL E ops (⟨d, .build t parts, ty, pos, af, none⟩ :: os) K ⟨f, rows, clk⟩ = aU (fun v => oS (E.ty t) (parts.toList.map fun x => (x.1, aR f x.2)) v) fun v => aL E ops os K ⟨put f d v, rows, clk⟩ := by
 simp only [aL, dR, ys, yv]
 rw [bX (k := fun v => oS (E.ty t) (parts.toList.map fun x => (x.1, aR f x.2)) v) (fun v => Iff.rfl)]
theorem ME {t : TypeId} {x y : Operand} : aL E ops (⟨d, .index t x y, ty, pos, af, none⟩ :: os) K ⟨f, rows, clk⟩ = aU (fun v => rJ (E.ty t) (aR f x) (aR f y) v) fun v => aL E ops os K ⟨put f d v, rows, clk⟩ := by
 simp only [aL, dR, ys, yv]
 rw [bX (k := fun v => rJ (E.ty t) (aR f x) (aR f y) v) (fun v => Iff.rfl)]
theorem W8 {t : TypeId} {x : Operand} : aL E ops (⟨d, .call { callee := .builtin .len, args := ⟨[x]⟩, argTypes := ⟨[t]⟩ }, ty, pos, af, none⟩ :: os) K ⟨f, rows, clk⟩ = aU (fun v => vH (E.ty t) rows (aR f x) v) fun v => aL E ops os K ⟨put f d v, rows, clk⟩ := by
 simp only [aL, dR, ys, yv]
 rw [bX (k := fun v => vH (E.ty t) rows (aR f x) v) (fun v => Iff.rfl)]
theorem BR {x : Operand} : aL E ops (⟨d, .nilCheck x, ty, pos, af, none⟩ :: os) K ⟨f, rows, clk⟩ = aU (fun v => BL rows (aR f x) v) fun v => aL E ops os K ⟨put f d v, rows, clk⟩ := by
 simp only [aL, dR, ys, yv]
 rw [bX (k := fun v => BL rows (aR f x) v) (fun v => Iff.rfl)]
theorem W9 {ts : Array TypeId} {x y : Operand} : aL E ops (⟨d, .call { callee := .builtin .max, args := ⟨[x, y]⟩, argTypes := ts }, ty, pos, af, none⟩ :: os) K ⟨f, rows, clk⟩ = aU (fun v => LF (aR f x) (aR f y) v) fun v => aL E ops os K ⟨put f d v, rows, clk⟩ := by
 simp only [aL, dR, ys, yv]
 rw [bX (fun v => Iff.rfl)]
theorem XA {ts : Array TypeId} {x y : Operand} : aL E ops (⟨d, .call { callee := .builtin .min, args := ⟨[x, y]⟩, argTypes := ts }, ty, pos, af, none⟩ :: os) K ⟨f, rows, clk⟩ = aU (fun v => LG (aR f x) (aR f y) v) fun v => aL E ops os K ⟨put f d v, rows, clk⟩ := by
 simp only [aL, dR, ys, yv]
 rw [bX (fun v => Iff.rfl)]
theorem xA {t : TypeId} {len : Nat} {parts : Array (Nat × Operand)} : aL E ops (⟨d, .buildSlice t len parts, ty, pos, af, none⟩ :: os) K ⟨f, rows, clk⟩ = aU (fun v => LU (E.ty t) rows len (parts.toList.map fun x => (x.1, aR f x.2)) v) fun v => aL E ops os K ⟨put f d v, rows, clk⟩ := by
 simp only [aL, dR, ys]
 rw [bX (fun v => Iff.rfl)]
theorem MF {t : TypeId} {p x : Operand} : aL E ops (⟨none, .store t p x, ty, pos, af, none⟩ :: os) K ⟨f, rows, clk⟩ = ∃ id r, oW E t rows (aR f p) (aR f x) .undef (some (id, r)) ∧ aL E ops os K ⟨f, dF rows id (some r), clk⟩ := by
 simp only [aL, dR, ys]
 apply propext
 constructor
 ·rintro ⟨v, u, h, h2⟩
  have h' := h
  obtain ⟨_, rfl, h3⟩ := h
  split at h3
  ·obtain ⟨_, _, _, _, _, _, _, _, _, _, rfl⟩ := h3
   exact ⟨_, _, h', h2⟩
  ·exact h3.elim
 ·rintro ⟨id, r, h, h2⟩; exact ⟨.undef, some (id, r), h, h2⟩
theorem MG {t : TypeId} : aL E ops (⟨d, .alloc t, ty, pos, af, none⟩ :: os) K ⟨f, rows, clk⟩ = aH ((E.ty t).known = true) (aL E ops os K ⟨put f d (.ptr (d.getD 0) clk 0 0), dF rows (d.getD 0) (some ⟨clk, t, (E.ty t).size, [(E.ty t).zero]⟩), clk + 1⟩) := rfl
theorem XB {t : TypeId} {x : Operand} : aL E ops (⟨d, .box t x, ty, pos, af, none⟩ :: os) K ⟨f, rows, clk⟩ = aH ((E.ty t).known = true) (∃ l, bQ (aR f x) = some l ∧ (∀ q ∈ l, gS rows q) ∧ l.length = (E.ty t).size ∧ aL E ops os K ⟨put f d (.ptr (d.getD 0) clk 0 0), dF rows (d.getD 0) (some ⟨clk, t, (E.ty t).size, [l]⟩), clk + 1⟩) := rfl
def o7 (t : TI) (x y : PV) (K : TypeId → Nat → List PV → Int → Prop) : Prop :=
 match t, x, y with
 | .slice e n b z, .int _ x, .int _ y => aH (0 ≤ x ∧ x ≤ y ∧ y.toNat ≤ room ∧ y.toNat * b ≤ room) (K e n z x)
 | _, _, _ => False
theorem yY {t : TypeId} {l c : Operand} : aL E ops (⟨d, .makeSlice t l c, ty, pos, af, none⟩ :: os) K ⟨f, rows, clk⟩ = o7 (E.ty t) (aR f l) (aR f c) fun e n z x => aL E ops os K ⟨put f d (.own (d.getD 0) clk 0 x.toNat), dF rows (d.getD 0) (some ⟨clk, e, n, List.replicate x.toNat z⟩), clk + 1⟩ := by
 simp only [aL, dR, o7, EG]
 generalize E.ty t = T
 generalize aR f l = A
 generalize aR f c = B
 cases T with
 | slice e n b z =>
  cases A with
  | int k x =>
   cases B with
   | int k2 y => simp only [aH, and_assoc]
   | _ => rfl
  | _ => rfl
 | _ => rfl
def SY (t : TI) (rows : Rows) (x y : PV) (clk d : Nat) (K : PV → Rows → Nat → Prop) : Prop :=
 match t with
 | .slice e n b _ =>
  ∃ l, sO rows y l ∧ (∀ e ∈ l, e.length = n) ∧
  match x with
  | .nil => aH (l.length ≤ room ∧ l.length * b ≤ room) (K (.own d clk 0 l.length) (dF rows d (some ⟨clk, e, n, l⟩)) (clk + 1))
  | .own id ver off len => ∃ r, rows id = some r ∧ r.ver = ver ∧ off = 0 ∧ len = r.els.length ∧ r.e = e ∧ r.size = n ∧ aH (len + l.length ≤ room ∧ (len + l.length) * b ≤ room) (K (.own id clk 0 (len + l.length)) (dF rows id (some ⟨clk, e, n, r.els ++ l⟩)) (clk + 1))
  | .iV l0 => (∀ e ∈ l0, e.length = n) ∧ (∀ e ∈ l, ∀ p ∈ e, bY p = true) ∧ aH (l0.length + l.length ≤ room ∧ (l0.length + l.length) * b ≤ room) (K (.sl (l0 ++ l)) rows clk)
  | _ => False
 | _ => False
theorem HQ {t t2 : TypeId} {x y : Operand} : aL E ops (⟨d, .call { callee := .builtin .append, args := ⟨[x, y]⟩, argTypes := ⟨[t, t2]⟩ }, ty, pos, af, none⟩ :: os) K ⟨f, rows, clk⟩ =
  aH (t2 = t ∨ V6 (E.ty t2) = true) (SY (E.ty t) rows (aR f x) (aR f y) clk (d.getD 0) fun v rows clk => aL E ops os K ⟨put f d v, rows, clk⟩) := by
 simp only [aL, dR, EH, SY, EG, aH, PS.put]
 congr 1
 generalize E.ty t = T
 generalize aR f x = A
 cases T with
 | slice e n b z =>
  simp only
  congr 1
  funext l
  congr 2
  cases A with
  | nil => simp only [and_assoc]
  | own id ver off len => simp only [and_assoc]
  | iV l0 => simp only [and_assoc]
  | _ => rfl
 | _ => rfl
end
def sS (P : Program) (g : FuncId) (args : List PV) (K : PV → Prop) : Prop := ∃ v, aK P g args v ∧ K v
@[congr] theorem ae0 {P : Program} {g : FuncId} {args HR : List PV} {K : PV → Prop} (h : args = HR) : sS P g args K = sS P g HR K := by rw [h]
def o8 (E : Env) (p : PV) (fF : List PV) (rows : Rows) (clk : Nat) (K : PV → Rows → Nat → Prop) : Prop :=
 match p with
 | .fn g b9 => if E.writes g = true then b9 = [] ∧ vN E.P g fF rows clk K else aH ((fF.map (pz rows)).all eY = true ∧ dK rows (fF.flatMap dD)) (sS E.P g (fF.map (pz rows) ++ b9) fun v => K v (CJ rows (fF.flatMap dD)) clk)
 | _ => False
@[congr] theorem acq {E : Env} {p p' : PV} {fF vV : List PV} {rows rows' : Rows} {clk jN : Nat} {K : PV → Rows → Nat → Prop} (h1 : p = p') (h2 : fF = vV) (h3 : rows = rows') (h4 : clk = jN) : o8 E p fF rows clk K = o8 E p' vV rows' jN K := by rw [h1, h2, h3, h4]
@[congr] theorem ae1 {P : Program} {g : FuncId} {fF vV : List PV} {rows : Rows} {clk : Nat} {K : PV → Rows → Nat → Prop} (h : fF = vV) : vN P g fF rows clk K = vN P g vV rows clk K := by rw [h]
@[congr] theorem ae2 {t t' : TI} {x x' y y' : PV} {K : TypeId → Nat → List PV → Int → Prop} (h1 : t = t') (h2 : x = x') (h3 : y = y') : o7 t x y K = o7 t' x' y' K := by rw [h1, h2, h3]
@[congr] theorem ahl {t t' : TI} {rows rows' : Rows} {x x' y y' : PV} {clk jN d d' : Nat} {K : PV → Rows → Nat → Prop} (h1 : t = t') (h2 : rows = rows') (h3 : x = x') (h4 : y = y') (h5 : clk = jN) (h6 : d = d') :
  SY t rows x y clk d K = SY t' rows' x' y' jN d' K := by rw [h1, h2, h3, h4, h5, h6]
section
variable {E : Env} {ops os : List Oper} {K : PS → Prop} {f : Nat → PV} {rows : Rows} {clk : Nat} {d : Option Tmp} {ty : TypeId} {pos : String} {af : Array Edge}
theorem SZ {fo : Operand} {args : Array Operand} {ts : Array TypeId} : aL E ops (⟨d, .call { callee := .value fo, args := args, argTypes := ts }, ty, pos, af, none⟩ :: os) K ⟨f, rows, clk⟩ =
  o8 E (aR f fo) (args.toList.map (aR f)) rows clk fun v rows clk => aL E ops os K ⟨put f d v, rows, clk⟩ := by
 simp only [aL, dR, vO, o8, LV, aH, sS]
 generalize aR f fo = A
 have e1 : (args.toList.map fun x => pz rows (aR f x)) = (args.toList.map (aR f)).map (pz rows) := by rw [List.map_map]; rfl
 have e2 : (args.toList.flatMap fun x => dD (aR f x)) = (args.toList.map (aR f)).flatMap dD := by rw [List.flatMap_map]
 rw [e1, e2]
 cases A with
 | fn g b9 =>
  have hm : agT E (.fn g b9) = E.writes g := rfl
  by_cases hw : E.writes g = true
  ·rw [hm, if_pos hw]
   cases b9 with
   | nil => simp [hw]
   | cons x l => simp [hw]
  rw [hm, if_neg hw]
  simp only [if_neg hw]
  apply propext
  constructor
  ·rintro ⟨v, ⟨h1, h2⟩, h3, h4⟩; exact ⟨⟨h1, h3⟩, v, h2, h4⟩
  ·rintro ⟨⟨h1, h3⟩, v, h2, h4⟩; exact ⟨v, ⟨h1, h2⟩, h3, h4⟩
 | _ => simp [agT]
theorem BS {g : FuncId} {b9 : Array Operand} : aL E ops (⟨d, .makeFunc (.func g) ⟨[]⟩ b9, ty, pos, af, none⟩ :: os) K ⟨f, rows, clk⟩ =
  aH (((b9.toList.map (aR f)).map (pz rows)).all eY = true ∧ dK rows ((b9.toList.map (aR f)).flatMap dD))
   (aL E ops os K ⟨put f d (.fn g ((b9.toList.map (aR f)).map (pz rows))), CJ rows ((b9.toList.map (aR f)).flatMap dD), clk⟩) := by
 simp only [aL, dR, aH, and_assoc]
 have e1 : (b9.toList.map fun x => pz rows (aR f x)) = (b9.toList.map (aR f)).map (pz rows) := by rw [List.map_map]; rfl
 have e2 : (b9.toList.flatMap fun x => dD (aR f x)) = (b9.toList.map (aR f)).flatMap dD := by rw [List.flatMap_map]
 rw [e1, e2]
def j2 (k : Nat) (l : List Nat) (t : Nat → Nat → Prop) : Nat → Nat → Prop := fun k' id => (true = true ∧ k' = k ∧ id ∈ l) ∨ t k' id
def nN (k id : Nat) (w : Nat → Nat → Prop) : Nat → Nat → Prop := fun k' iS => (k' = k ∧ iS = id) ∨ w k' iS
variable {k : Nat} {bN : Nat → Nat → Prop} {aO : Nat → Nat → Prop}
theorem MH {op : Op} {j : Nat} {want : Bool} : aN E ops clk k (⟨d, op, ty, pos, af, some (j, want)⟩ :: os) K ⟨f, rows, bN, aO⟩ =
  match (ops[j]?).bind (·.dst) with
  | none => False
  | some e => stepG (f e) want (aN E ops clk k (⟨d, op, ty, pos, af, none⟩ :: os) K ⟨f, rows, bN, aO⟩) (aN E ops clk (k + 1) os K ⟨put f d (.eA []), rows, bN, aO⟩) := by
 have e3 : app k ⟨d, op, ty, pos, af, some (j, want)⟩ false (.eA []) none ⟨f, rows, bN, aO⟩ = ⟨put f d (.eA []), rows, bN, aO⟩ := by simp [app, fA, wlU]
 simp only [aN, e3]
 cases hx : (ops[j]?).bind (·.dst) with
 | none => rfl
 | some e => rfl
theorem cI {o : Oper} {R : PV → Prop} {kk : PV → Prop} {st : ST} (h : ∀ v, R v ↔ kk v) : (∃ v u, (R v ∧ u = none) ∧ SM .any ops k u bN ∧ aN E ops clk (k + 1) os K (app k o true v u st)) = aU kk fun v => aN E ops clk (k + 1) os K (app k o true v none st) := by
 apply propext; simp only [aU]
 constructor
 ·rintro ⟨v, u, ⟨h1, rfl⟩, _, h2⟩; exact ⟨v, (h v).1 h1, h2⟩
 ·rintro ⟨v, h1, h2⟩; exact ⟨v, none, ⟨(h v).2 h1, rfl⟩, trivial, h2⟩
theorem eB {op : Op} {v : PV} (h : gN op (aR f) = []) : app k ⟨d, op, ty, pos, af, none⟩ true v none ⟨f, rows, bN, aO⟩ = ⟨put f d v, rows, bN, aO⟩ := by simp [app, fA, wlU, h]
theorem qA {op : Op} {v : PV} {l : List Nat} (h : gN op (aR f) = l) : app k ⟨d, op, ty, pos, af, none⟩ true v none ⟨f, rows, bN, aO⟩ = ⟨put f d v, rows, j2 k l bN, aO⟩ := by subst h; rfl
theorem S3 {x : Operand} : aN E ops clk k (⟨d, .move x, ty, pos, af, none⟩ :: os) K ⟨f, rows, bN, aO⟩ = aN E ops clk (k + 1) os K ⟨put f d (aR f x), rows, bN, aO⟩ := by
 simp only [aN, yn, gO, ys, yv]
 rw [cI (kk := fun v => v = aR f x) (fun v => Iff.rfl), iZ, eB rfl]
theorem HS {x : Operand} : aN E ops clk k (⟨d, .assign x, ty, pos, af, none⟩ :: os) K ⟨f, rows, bN, aO⟩ = aN E ops clk (k + 1) os K ⟨put f d (aR f x), rows, bN, aO⟩ := by
 simp only [aN, yn, gO, ys, yv]
 rw [cI (kk := fun v => v = aR f x) (fun v => Iff.rfl), iZ, eB rfl]
theorem S4 {c a b : Operand} : aN E ops clk k (⟨d, .pick c a b, ty, pos, af, none⟩ :: os) K ⟨f, rows, bN, aO⟩ = gL (aR f c) true (aN E ops clk (k + 1) os K ⟨put f d (aR f a), rows, bN, aO⟩) (aN E ops clk (k + 1) os K ⟨put f d (aR f b), rows, bN, aO⟩) := by
 simp only [aN, yn, gO, ys, yv]
 rw [cI (fun v => Iff.rfl)]
 apply propext; simp only [aU, gL, eB (op := .pick c a b) rfl]
 constructor
 ·rintro ⟨v, ⟨t, h1, rfl⟩, h2⟩
  refine ⟨t, h1, fun h => ?_, fun h => ?_⟩
  ·subst h; exact h2
  ·subst h; exact h2
 ·rintro ⟨t, h1, h2, h3⟩
  cases t with
  | true => exact ⟨_, ⟨true, h1, rfl⟩, h2 rfl⟩
  | false => exact ⟨_, ⟨false, h1, rfl⟩, h3 rfl⟩
theorem XC {op : BinOp} {t t2 : TypeId} {x y : Operand} : aN E ops clk k (⟨d, .binOp op t x y t2, ty, pos, af, none⟩ :: os) K ⟨f, rows, bN, aO⟩ = aU (fun v => D6 E op t (aR f x) (aR f y) v) fun v => aN E ops clk (k + 1) os K ⟨put f d v, rows, bN, aO⟩ := by
 simp only [aN, yn, gO, ys, yv]; rw [cI (fun v => Iff.rfl)]; simp only [eB (op := .binOp op t x y t2) rfl]
theorem acr {op : UnOp} {t : TypeId} {x : Operand} : aN E ops clk k (⟨d, .unOp op t x, ty, pos, af, none⟩ :: os) K ⟨f, rows, bN, aO⟩ = aU (fun v => yun op (aR f x) v) fun v => aN E ops clk (k + 1) os K ⟨put f d v, rows, bN, aO⟩ := by
 simp only [aN, yn, gO, ys, yv]; rw [cI (fun v => Iff.rfl)]; simp only [eB (op := .unOp op t x) rfl]
theorem S5 {s t : TypeId} {x : Operand} : aN E ops clk k (⟨d, .convert s t x, ty, pos, af, none⟩ :: os) K ⟨f, rows, bN, aO⟩ = aU (fun v => qY (E.ty s) (E.ty t) (aR f x) v) fun v => aN E ops clk (k + 1) os K ⟨put f d v, rows, bN, aO⟩ := by
 simp only [aN, yn, gO, ys, yv]; rw [cI (fun v => Iff.rfl)]; simp only [eB (op := .convert s t x) rfl]
theorem EP {i : Nat} {x : Operand} : aN E ops clk k (⟨d, .extract x i, ty, pos, af, none⟩ :: os) K ⟨f, rows, bN, aO⟩ = aU (fun v => LC i (aR f x) v) fun v => aN E ops clk (k + 1) os K ⟨put f d v, rows, bN, aO⟩ := by
 simp only [aN, yn, gO, ys, yv]; rw [cI (fun v => Iff.rfl)]; simp only [eB (op := .extract x i) rfl]
theorem S6 {t : TypeId} {x : Operand} : aN E ops clk k (⟨d, .load t x, ty, pos, af, none⟩ :: os) K ⟨f, rows, bN, aO⟩ = aU (fun v => qW E t (dM .any ops k aO rows) (aR f x) v) fun v => aN E ops clk (k + 1) os K ⟨put f d v, rows, j2 k (a7 (aR f x)) bN, aO⟩ := by
 simp only [aN, yn, gO, ys, yv]; rw [cI (fun v => Iff.rfl)]; simp only [qA (op := .load t x) rfl]; rfl
theorem MI {t : TypeId} {i : Nat} {x : Operand} : aN E ops clk k (⟨d, .field t x i, ty, pos, af, none⟩ :: os) K ⟨f, rows, bN, aO⟩ = aU (fun v => rI E t i (aR f x) v) fun v => aN E ops clk (k + 1) os K ⟨put f d v, rows, bN, aO⟩ := by
 simp only [aN, yn, gO, ys, yv]; rw [cI (fun v => Iff.rfl)]; simp only [eB (op := .field t x i) rfl]
theorem yZ {t : TypeId} {i : Nat} {x : Operand} : aN E ops clk k (⟨d, .fieldAddr t x i, ty, pos, af, none⟩ :: os) K ⟨f, rows, bN, aO⟩ = aU (fun v => eH E t (dM .any ops k aO rows) i (aR f x) v) fun v => aN E ops clk (k + 1) os K ⟨put f d v, rows, j2 k (a7 (aR f x)) bN, aO⟩ := by
 simp only [aN, yn, gO, ys, yv]; rw [cI (fun v => Iff.rfl)]; simp only [qA (op := .fieldAddr t x i) rfl]; rfl
theorem y3 {t : TypeId} {x y : Operand} : aN E ops clk k (⟨d, .indexAddr t x y, ty, pos, af, none⟩ :: os) K ⟨f, rows, bN, aO⟩ = aU (fun v => eI E t (dM .any ops k aO rows) (aR f x) (aR f y) v) fun v => aN E ops clk (k + 1) os K ⟨put f d v, rows, j2 k (a7 (aR f x)) bN, aO⟩ := by
 simp only [aN, yn, gO, ys, yv]; rw [cI (fun v => Iff.rfl)]; simp only [qA (op := .indexAddr t x y) rfl]; rfl
theorem MJ {t : TypeId} {x : Operand} {lo hi mx : Option Operand} : aN E ops clk k (⟨d, .slice t x lo hi mx, ty, pos, af, none⟩ :: os) K ⟨f, rows, bN, aO⟩ = aU (fun v => mF E t (dM .any ops k aO rows) (aR f x) (lo.map (aR f)) (hi.map (aR f)) (mx.map (aR f)) v) fun v => aN E ops clk (k + 1) os K ⟨put f d v, rows, j2 k (a7 (aR f x)) bN, aO⟩ := by
 simp only [aN, yn, gO, ys, yv]; rw [cI (fun v => Iff.rfl)]; simp only [qA (op := .slice t x lo hi mx) rfl]; rfl
theorem ML {t : TypeId} {parts : Array (Nat × Operand)} : aN E ops clk k (⟨d, .build t parts, ty, pos, af, none⟩ :: os) K ⟨f, rows, bN, aO⟩ = aU (fun v => oS (E.ty t) (parts.toList.map fun x => (x.1, aR f x.2)) v) fun v => aN E ops clk (k + 1) os K ⟨put f d v, rows, bN, aO⟩ := by
 simp only [aN, yn, gO, ys, yv]; rw [cI (fun v => Iff.rfl)]; simp only [eB (op := .build t parts) rfl]
theorem XD {t : TypeId} {x : Operand} : aN E ops clk k (⟨d, .call { callee := .builtin .len, args := ⟨[x]⟩, argTypes := ⟨[t]⟩ }, ty, pos, af, none⟩ :: os) K ⟨f, rows, bN, aO⟩ = aU (fun v => vH (E.ty t) (dM .any ops k aO rows) (aR f x) v) fun v => aN E ops clk (k + 1) os K ⟨put f d v, rows, j2 k (a7 (aR f x)) bN, aO⟩ := by
 simp only [aN, yn, gO, ys, yv]; rw [cI (fun v => Iff.rfl)]; simp only [qA (op := .call { callee := .builtin .len, args := ⟨[x]⟩, argTypes := ⟨[t]⟩ }) rfl]; rfl
theorem BT {x : Operand} : aN E ops clk k (⟨d, .nilCheck x, ty, pos, af, none⟩ :: os) K ⟨f, rows, bN, aO⟩ = aU (fun v => BL (dM .any ops k aO rows) (aR f x) v) fun v => aN E ops clk (k + 1) os K ⟨put f d v, rows, j2 k (a7 (aR f x)) bN, aO⟩ := by
 simp only [aN, yn, gO, ys, yv]; rw [cI (fun v => Iff.rfl)]; simp only [qA (op := .nilCheck x) rfl]; rfl
theorem XE {ts : Array TypeId} {x y : Operand} : aN E ops clk k (⟨d, .call { callee := .builtin .max, args := ⟨[x, y]⟩, argTypes := ts }, ty, pos, af, none⟩ :: os) K ⟨f, rows, bN, aO⟩ = aU (fun v => LF (aR f x) (aR f y) v) fun v => aN E ops clk (k + 1) os K ⟨put f d v, rows, bN, aO⟩ := by
 simp only [aN, yn, gO, ys, yv]; rw [cI (fun v => Iff.rfl)]; simp only [eB (op := .call { callee := .builtin .max, args := ⟨[x, y]⟩, argTypes := ts }) rfl]
theorem XF {ts : Array TypeId} {x y : Operand} : aN E ops clk k (⟨d, .call { callee := .builtin .min, args := ⟨[x, y]⟩, argTypes := ts }, ty, pos, af, none⟩ :: os) K ⟨f, rows, bN, aO⟩ = aU (fun v => LG (aR f x) (aR f y) v) fun v => aN E ops clk (k + 1) os K ⟨put f d v, rows, bN, aO⟩ := by
 simp only [aN, yn, gO, ys, yv]; rw [cI (fun v => Iff.rfl)]; simp only [eB (op := .call { callee := .builtin .min, args := ⟨[x, y]⟩, argTypes := ts }) rfl]
theorem BU {g : FuncId} {b9 : Array Operand} : aN E ops clk k (⟨d, .makeFunc (.func g) ⟨[]⟩ b9, ty, pos, af, none⟩ :: os) K ⟨f, rows, bN, aO⟩ = aH ((b9.toList.map fun x => aR f x).all eY = true) (aN E ops clk (k + 1) os K ⟨put f d (.fn g (b9.toList.map fun x => aR f x)), rows, bN, aO⟩) := by
 simp only [aN, yn, gO, ys, yv]
 rw [cI (fun v => Iff.rfl), iJ, iZ]; simp only [eB (op := .makeFunc (.func g) ⟨[]⟩ b9) rfl]
theorem xB {t : TypeId} {len : Nat} {parts : Array (Nat × Operand)} : aN E ops clk k (⟨d, .buildSlice t len parts, ty, pos, af, none⟩ :: os) K ⟨f, rows, bN, aO⟩ = aU (fun v => LU (E.ty t) (dM .any ops k aO rows) len (parts.toList.map fun x => (x.1, aR f x.2)) v) fun v => aN E ops clk (k + 1) os K ⟨put f d v, rows, bN, aO⟩ := by
 simp only [aN, yn, gO, ys]; rw [cI (fun v => Iff.rfl)]; simp only [eB (op := .buildSlice t len parts) rfl]
theorem MM {t : TypeId} {p x : Operand} : aN E ops clk k (⟨none, .store t p x, ty, pos, af, none⟩ :: os) K ⟨f, rows, bN, aO⟩ =
  ∃ id r, oW E t (dM .any ops k aO rows) (aR f p) (aR f x) .undef (some (id, r)) ∧ yP .any ops k id bN ∧ aN E ops clk (k + 1) os K ⟨f, dF rows id (some r), j2 k (a7 (aR f p) ++ ((bQ (aR f x)).getD []).flatMap a7) bN, nN k id aO⟩ := by
 simp only [aN, yn, gO, ys]
 apply propext
 constructor
 ·rintro ⟨v, u, h, h1, h2⟩
  have h' := h
  obtain ⟨_, rfl, h3⟩ := h
  split at h3
  ·obtain ⟨_, _, _, _, _, _, _, _, _, _, rfl⟩ := h3
   exact ⟨_, _, h', h1, h2⟩
  ·exact h3.elim
 ·rintro ⟨id, r, h, h1, h2⟩; exact ⟨.undef, some (id, r), h, h1, h2⟩
theorem XG {o : Oper} {R : PV → Option (Nat × Row) → Prop} {C : Prop} {v0 : PV} {e : Nat} {r0 : Row} {st : ST} {jN : Nat} (h : ∀ v u, R v u ↔ (C ∧ v = v0 ∧ u = some (e, r0))) : (∃ v u, R v u ∧ SM .any ops k u bN ∧ aN E ops jN (k + 1) os K (app k o true v u st)) = aH (C ∧ yP .any ops k e bN) (aN E ops jN (k + 1) os K (app k o true v0 (some (e, r0)) st)) := by
 apply propext; simp only [aH]
 constructor
 ·rintro ⟨v, u, h1, h2, h3⟩
  obtain ⟨hc, rfl, rfl⟩ := (h v u).1 h1
  exact ⟨⟨hc, h2⟩, h3⟩
 ·rintro ⟨⟨h1, h2⟩, h3⟩; exact ⟨v0, _, (h _ _).2 ⟨h1, rfl, rfl⟩, h2, h3⟩
theorem sU {op : Op} {v : PV} {e : Nat} {r0 : Row} (h : gN op (aR f) = []) : app k ⟨d, op, ty, pos, af, none⟩ true v (some (e, r0)) ⟨f, rows, bN, aO⟩ = ⟨put f d v, dF rows e (some r0), bN, nN k e aO⟩ := by simp only [app, fA, wlU, h, List.not_mem_nil, and_false, false_or]; rfl
theorem MN {t : TypeId} : aN E ops clk k (⟨d, .alloc t, ty, pos, af, none⟩ :: os) K ⟨f, rows, bN, aO⟩ = aH ((E.ty t).known = true ∧ yP .any ops k (d.getD 0) bN) (aN E ops (clk + 1) (k + 1) os K ⟨put f d (.ptr (d.getD 0) clk 0 0), dF rows (d.getD 0) (some ⟨clk, t, (E.ty t).size, [(E.ty t).zero]⟩), bN, nN k (d.getD 0) aO⟩) := by
 simp only [aN, yn, gO]
 rw [XG (C := (E.ty t).known = true) (v0 := .ptr (d.getD 0) clk 0 0) (e := d.getD 0) (r0 := ⟨clk, t, (E.ty t).size, [(E.ty t).zero]⟩) (fun v u => by simp), sU (op := .alloc t) rfl]
theorem XH {t : TypeId} {x : Operand} : aN E ops clk k (⟨d, .box t x, ty, pos, af, none⟩ :: os) K ⟨f, rows, bN, aO⟩ = aH ((E.ty t).known = true) (∃ l, bQ (aR f x) = some l ∧ ((∀ q ∈ l, gS (fun _ => none) q) ∧ l.length = (E.ty t).size ∧ yP .any ops k (d.getD 0) bN) ∧
  aN E ops (clk + 1) (k + 1) os K ⟨put f d (.ptr (d.getD 0) clk 0 0), dF rows (d.getD 0) (some ⟨clk, t, (E.ty t).size, [l]⟩), bN, nN k (d.getD 0) aO⟩) := by
 simp only [aN, yn, gO]
 apply propext
 constructor
 ·rintro ⟨v, u, ⟨h1, l, h2, h3, h4, rfl, rfl⟩, h5, h6⟩
  rw [sU (op := .box t x) rfl] at h6
  exact ⟨h1, l, h2, ⟨h3, h4, h5⟩, h6⟩
 ·rintro ⟨h1, l, h2, ⟨h3, h4, h5⟩, h6⟩
  refine ⟨_, _, ⟨h1, l, h2, h3, h4, rfl, rfl⟩, h5, ?_⟩
  rw [sU (op := .box t x) rfl]; exact h6
theorem y4 {t : TypeId} {l c : Operand} : aN E ops clk k (⟨d, .makeSlice t l c, ty, pos, af, none⟩ :: os) K ⟨f, rows, bN, aO⟩ = o7 (E.ty t) (aR f l) (aR f c) fun e n z x => aH (yP .any ops k (d.getD 0) bN) (aN E ops (clk + 1) (k + 1) os K ⟨put f d (.own (d.getD 0) clk 0 x.toNat), dF rows (d.getD 0) (some ⟨clk, e, n, List.replicate x.toNat z⟩), bN, nN k (d.getD 0) aO⟩) := by
 have V1 : ∀ {v e' r0}, app k ⟨d, .makeSlice t l c, ty, pos, af, none⟩ true v (some (e', r0)) ⟨f, rows, bN, aO⟩ = ⟨put f d v, dF rows e' (some r0), bN, nN k e' aO⟩ := sU rfl
 simp only [aN, yn, gO, o7]
 generalize E.ty t = T
 generalize aR f l = A
 generalize aR f c = B
 cases T with
 | slice e n b z =>
  cases A with
  | int k1 x =>
   cases B with
   | int k2 y =>
    apply propext
    simp only [aH]
    constructor
    ·rintro ⟨v, u, ⟨h1, h2, h3, h4, rfl, rfl⟩, h5, h6⟩
     rw [V1] at h6
     exact ⟨⟨h1, h2, h3, h4⟩, h5, h6⟩
    ·rintro ⟨⟨h1, h2, h3, h4⟩, h5, h6⟩
     refine ⟨_, _, ⟨h1, h2, h3, h4, rfl, rfl⟩, h5, ?_⟩
     rw [V1]; exact h6
   | _ => simp
  | _ => simp
 | _ => simp
theorem HT {t t2 : TypeId} {x y : Operand} : aN E ops clk k (⟨d, .call { callee := .builtin .append, args := ⟨[x, y]⟩, argTypes := ⟨[t, t2]⟩ }, ty, pos, af, none⟩ :: os) K ⟨f, rows, bN, aO⟩ =
  aH (t2 = t ∨ V6 (E.ty t2) = true) (∃ v id r, o0 (E.ty t) (dM .any ops k aO rows) (aR f x) (aR f y) clk (d.getD 0) v (some (id, r)) ∧ yP .any ops k id bN ∧
   aN E ops (clk + 1) (k + 1) os K ⟨put f d v, dF rows id (some r), j2 k (a7 (aR f x) ++ a7 (aR f y)) bN, nN k id aO⟩) := by
 have V1 : ∀ {v e' r0}, app k ⟨d, .call { callee := .builtin .append, args := ⟨[x, y]⟩, argTypes := ⟨[t, t2]⟩ }, ty, pos, af, none⟩ true v (some (e', r0)) ⟨f, rows, bN, aO⟩ = ⟨put f d v, dF rows e' (some r0), j2 k (a7 (aR f x) ++ a7 (aR f y)) bN, nN k e' aO⟩ := rfl
 simp only [aN, yn, gO, aH]
 apply propext
 constructor
 ·rintro ⟨v, u, ⟨h1, h2⟩, h3, h4⟩
  refine ⟨h1, ?_⟩
  have h2' := h2
  unfold o0 at h2'
  split at h2'
  ·obtain ⟨l, g1, g2, g3⟩ := h2'
   split at g3
   ·obtain ⟨_, _, rfl, rfl⟩ := g3
    exact ⟨_, _, _, h2, h3, h4⟩
   ·obtain ⟨r, _, _, _, _, _, _, _, _, rfl, rfl⟩ := g3
    exact ⟨_, _, _, h2, h3, h4⟩
   ·exact g3.elim
  ·exact h2'.elim
 ·rintro ⟨h1, v, id, r, h2, h3, h4⟩
  exact ⟨v, _, ⟨h1, h2⟩, h3, h4⟩
def nO (E : Env) (p : PV) (fF : List PV) (rows : Rows) (K : PV → Prop) : Prop :=
 match p with
 | .fn g b9 => aH ((fF.map (pz rows)).all eY = true ∧ fF.flatMap dD = []) (sS E.P g (fF.map (pz rows) ++ b9) K)
 | _ => False
@[congr] theorem acs {E : Env} {p p' : PV} {fF vV : List PV} {rows rows' : Rows} {K : PV → Prop} (h1 : p = p') (h2 : fF = vV) (h3 : rows = rows') : nO E p fF rows K = nO E p' vV rows' K := by rw [h1, h2, h3]
theorem CO {fo : Operand} {args : Array Operand} {ts : Array TypeId} (hfo : cV E (.call { callee := .value fo, args := args, argTypes := ts }) = false) : aN E ops clk k (⟨d, .call { callee := .value fo, args := args, argTypes := ts }, ty, pos, af, none⟩ :: os) K ⟨f, rows, bN, aO⟩ =
  nO E (aR f fo) (args.toList.map (aR f)) (dM .any ops k aO rows) fun v => aN E ops clk (k + 1) os K ⟨put f d v, rows, bN, aO⟩ := by
 simp only [aN]
 rw [yQ hfo]
 simp only [yO hfo, ys, vO, nO, aH, sS]
 generalize hA : aR f fo = A
 have e1 : (args.toList.map fun x => pz (dM .any ops k aO rows) (aR f x)) = (args.toList.map (aR f)).map (pz (dM .any ops k aO rows)) := by rw [List.map_map]; rfl
 have e2 : (args.toList.flatMap fun x => dD (aR f x)) = (args.toList.map (aR f)).flatMap dD := by rw [List.flatMap_map]
 rw [e1, e2]
 have e3 : ∀ v, app k ⟨d, .call { callee := .value fo, args := args, argTypes := ts }, ty, pos, af, none⟩ true v none ⟨f, rows, bN, aO⟩ = ⟨put f d v, rows, bN, aO⟩ := fun v => eB rfl
 cases A with
 | fn g b9 =>
  apply propext
  constructor
  ·rintro ⟨v, u, ⟨rfl, ⟨h1, h2⟩, h3⟩, _, h4⟩; rw [e3] at h4; exact ⟨⟨h1, h3⟩, v, h2, h4⟩
  ·rintro ⟨⟨h1, h3⟩, v, h2, h4⟩; exact ⟨v, none, ⟨rfl, ⟨h1, h2⟩, h3⟩, trivial, by rw [e3]; exact h4⟩
 | _ => simp
theorem MO {g : FuncId} {args : Array Operand} {ts : Array TypeId} (hw : E.writes g = true) : aN E ops clk k (⟨d, .call { callee := .value (.func g), args := args, argTypes := ts }, ty, pos, af, none⟩ :: os) K ⟨f, rows, bN, aO⟩ =
  ∃ e n els, ((args.toList.map (aR f)).all eY = true ∧ gF E.P g (args.toList.map (aR f)) e n els ∧ yP .any ops k (d.getD 0) bN) ∧ aN E ops (clk + 1) (k + 1) os K ⟨put f d (.own (d.getD 0) clk 0 els.length), dF rows (d.getD 0) (some ⟨clk, e, n, els⟩), bN, nN k (d.getD 0) aO⟩ := by
 have V1 : ∀ {v e' r0}, app k ⟨d, .call { callee := .value (.func g), args := args, argTypes := ts }, ty, pos, af, none⟩ true v (some (e', r0)) ⟨f, rows, bN, aO⟩ = ⟨put f d v, dF rows e' (some r0), bN, nN k e' aO⟩ := sU rfl
 simp only [aN, yn, gO]
 rw [if_pos hw]
 simp only [if_pos hw]
 apply propext
 constructor
 ·rintro ⟨v, u, ⟨h1, e, n, els, h2, rfl, rfl⟩, h3, h4⟩
  rw [V1] at h4
  exact ⟨e, n, els, ⟨h1, h2, h3⟩, h4⟩
 ·rintro ⟨e, n, els, ⟨h1, h2, h3⟩, h4⟩
  refine ⟨_, _, ⟨h1, e, n, els, h2, rfl, rfl⟩, h3, ?_⟩
  rw [V1]; exact h4
@[simp] theorem aml {md : Region.Mode} {ops : List Oper} {j : Nat} {rows : Rows} : dM md ops j (fun _ _ => False) rows = rows := by
 funext id; simp [dM]
@[simp] theorem amm {md : Region.Mode} {ops : List Oper} {j k id : Nat} {w : Nat → Nat → Prop} {rows : Rows} : dM md ops j (nN k id w) rows = if nK md ops j k = true then dM md ops j w rows else dF (dM md ops j w rows) id none := by
 funext x
 unfold dM nN
 by_cases hd : nK md ops j k = true
 ·rw [if_pos hd]
  have : (∃ k', ((k' = k ∧ x = id) ∨ w k' x) ∧ nK md ops j k' = false) ↔ ∃ k', w k' x ∧ nK md ops j k' = false := by
   constructor
   ·rintro ⟨k', ⟨rfl, _⟩ | h, h2⟩
    ·rw [hd] at h2; cases h2
    ·exact ⟨k', h, h2⟩
   ·rintro ⟨k', h, h2⟩; exact ⟨k', .inr h, h2⟩
  exact (by classical exact ite_congr (propext this) (fun _ => rfl) (fun _ => rfl))
 ·rw [if_neg hd]
  have WK : nK md ops j k = false := by simpa using hd
  simp only [dF]
  by_cases hx : x = id
  ·rw [if_pos hx, if_pos ⟨k, .inl ⟨rfl, hx⟩, WK⟩]
  ·rw [if_neg hx]
   have : (∃ k', ((k' = k ∧ x = id) ∨ w k' x) ∧ nK md ops j k' = false) ↔ ∃ k', w k' x ∧ nK md ops j k' = false := by
    constructor
    ·rintro ⟨k', ⟨_, h⟩ | h, h2⟩
     ·exact absurd h hx
     ·exact ⟨k', h, h2⟩
    ·rintro ⟨k', h, h2⟩; exact ⟨k', .inr h, h2⟩
   exact (by classical exact ite_congr (propext this) (fun _ => rfl) (fun _ => rfl))
@[simp] theorem ap1 {md : Region.Mode} {ops : List Oper} {i id : Nat} : yP md ops i id (fun _ _ => False) = True := by simp [yP]
@[simp] theorem ap2 {md : Region.Mode} {ops : List Oper} {i id k : Nat} {l : List Nat} {t : Nat → Nat → Prop} : yP md ops i id (j2 k l t) = ((id ∈ l → nK md ops i k = true) ∧ yP md ops i id t) := by
 apply propext
 unfold yP j2
 constructor
 ·intro h; exact ⟨fun hi => h k (.inl ⟨rfl, rfl, hi⟩), fun k' hk => h k' (.inr hk)⟩
 ·rintro ⟨h1, h2⟩ k' (⟨_, rfl, h⟩ | h)
  ·exact h1 h
  ·exact h2 k' h
end
end Pm
