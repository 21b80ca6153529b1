import Derived.StillTail
import Derived.Deep.LoopGhost
import Derived.Test.YtbbjgncblhfegaaGreatSab
set_option linter.unusedSimpArgs false
set_option linter.unusedVariables false
namespace Pm
open Go Go.RowKit
def gH (P : Program) (f : FuncId) (args : List PV) (e : TypeId) (n : Nat) (els : List (List PV)) : Prop :=
 (∃ fn c, P.funcs[f]? = some fn ∧ fn.body = some c ∧ (fn.name == "runtime.NumGoroutine") = false) ∧
 ∀ (w : World) (S : dB) (vs : List Value), (∀ b o, S b o → b < w.heap.size) → bI S w args vs →
  Calls P f vs.toArray w fun x w' => ∃ (v : Value) (xs : List Value) (S' : dB), x = .returned v ∧ Below w.heap.size w w' ∧ (∀ b o, S b o → S' b o) ∧ (∀ b o, S' b o → S b o ∨ (w.heap.size ≤ b ∧ b < w'.heap.size)) ∧
   w'.ownsRow w.heap.size e n v els.length xs ∧ a7 (cK S' w') els.flatten xs ∧ (∀ y ∈ xs, y.oneCell' = true) ∧ (∀ x ∈ els, x.length = n) ∧ 0 < n ∧ (∀ g o, v.ownBlock = some g → ¬ S' g o)
def S7 (md : Region.Mode) (ops : List Oper) (j k : Nat) : Bool :=
 match ops[j]? with
 | some o => o.after.toList.any fun e => Region.binds md e && e.on == k
 | none => false
def nW (md : Region.Mode) (ops : List Oper) (j k : Nat) : Bool := S7 md ops j k || (List.range ops.length).any fun h => S7 md ops j h && S7 md ops h k
structure ST where
 f : Nat → PV
 rows : Rows
 bL : Nat → Nat → Prop
 wl : Nat → Nat → Prop
def cU (E : Env) : Op → Bool
 | .alloc _ => true
 | .box _ _ => true
 | .makeSlice _ _ _ => true
 | .call { callee := .builtin .append, args := ⟨[_, _]⟩, argTypes := ⟨[_, _]⟩ } => true
 | .call { callee := .value (.func g), args := _, argTypes := _ } => E.writes g
 | _ => false
def r5 (E : Env) (ops : List Oper) : Bool := ops.all fun o => !cU E o.op || (o.dst.isSome && o.guard.isNone)
def rk (E : Env) (ops : List Oper) (i : Nat) : Nat := ((ops.take i).filter fun o => cU E o.op).length
theorem PT {E : Env} {ops : List Oper} {i : Nat} {o : Oper} (h : ops[i]? = some o) : rk E ops (i + 1) = rk E ops i + if cU E o.op = true then 1 else 0 := by
 unfold rk
 rw [List.take_add_one, h]
 simp only [Option.toList_some, List.filter_append, List.length_append]
 congr 1
 cases hn : cU E o.op <;> simp [hn]
theorem acC {E : Env} {ops : List Oper} {i j : Nat} (h : i ≤ j) : rk E ops i ≤ rk E ops j := by
 unfold rk
 have : (ops.take i).Sublist (ops.take j) := by
  have := List.take_sublist i (ops.take j)
  rwa [List.take_take, Nat.min_eq_left h] at this
 exact (this.filter _).length_le
theorem W2 {E : Env} {ops : List Oper} {i j : Nat} {o : Oper} (h : ops[i]? = some o) (hn : cU E o.op = true) (hij : i < j) : rk E ops i < rk E ops j := by
 have h1 := PT (E := E) h
 rw [if_pos hn] at h1
 have := acC (E := E) (ops := ops) (show i + 1 ≤ j from hij)
 omega
theorem ahz {E : Env} {ops : List Oper} {i j : Nat} {o o' : Oper} (h : ops[i]? = some o) (hn : cU E o.op = true) (h' : ops[j]? = some o') (wF : cU E o'.op = true) (he : rk E ops i = rk E ops j) : i = j := by
 rcases Nat.lt_trichotomy i j with h1 | h1 | h1
 ·have := W2 h hn h1; omega
 ·exact h1
 ·have := W2 h' wF h1; omega
def pG (t : TI) (rows : Rows) (x y : PV) (c0 d : Nat) (v : PV) (u : Option (Nat × Row)) : Prop :=
 match t with
 | .slice e n b _ => ∃ l, s8 rows y l ∧ (∀ e ∈ l, e.length = n) ∧
  match x with
  | .nil => l.length ≤ room ∧ l.length * b ≤ room ∧ v = .own d c0 0 l.length ∧ u = some (d, ⟨c0, e, n, l⟩)
  | .own id ver off len => ∃ r, rows id = some r ∧ r.ver = ver ∧ off = 0 ∧ len = r.els.length ∧ r.e = e ∧ r.size = n ∧ len + l.length ≤ room ∧ (len + l.length) * b ≤ room ∧
    v = .own id c0 0 (len + l.length) ∧ u = some (id, ⟨c0, e, n, r.els ++ l⟩)
  | _ => False
 | _ => False
def afm (E : Env) (g : FuncId) (args : List PV) (c0 d : Nat) (v : PV) (u : Option (Nat × Row)) : Prop :=
 args.all eY = true ∧ ∃ e n els, gH E.P g args e n els ∧ v = .own d c0 0 els.length ∧ u = some (d, ⟨c0, e, n, els⟩)
def yn (E : Env) (c0 : Nat) (d : Option Tmp) (op : Op) (ρ : Operand → PV) (rows : Rows) (v : PV) (u : Option (Nat × Row)) : Prop :=
 match op with
 | .alloc t => (E.ty t).known = true ∧ v = .ptr (d.getD 0) c0 0 0 ∧ u = some (d.getD 0, ⟨c0, t, (E.ty t).size, [(E.ty t).zero]⟩)
 | .box t x => (E.ty t).known = true ∧ ∃ l, bP (ρ x) = some l ∧ (∀ q ∈ l, gU (fun _ => none) q) ∧ l.length = (E.ty t).size ∧ v = .ptr (d.getD 0) c0 0 0 ∧ u = some (d.getD 0, ⟨c0, t, (E.ty t).size, [l]⟩)
 | .makeSlice t l c =>
  match E.ty t, ρ l, ρ c with
  | .slice e n b z, .int _ x, .int _ y => 0 ≤ x ∧ x ≤ y ∧ y.toNat ≤ room ∧ y.toNat * b ≤ room ∧ v = .own (d.getD 0) c0 0 x.toNat ∧ u = some (d.getD 0, ⟨c0, e, n, List.replicate x.toNat z⟩)
  | _, _, _ => False
 | .call { callee := .builtin .append, args := ⟨[x, y]⟩, argTypes := ⟨[t, t2]⟩ } => (t2 = t ∨ WU (E.ty t2) = true) ∧ pG (E.ty t) rows (ρ x) (ρ y) c0 (d.getD 0) v u
 | .call { callee := .value (.func g), args := aA5, argTypes := ts } => if E.writes g = true then afm E g (aA5.toList.map fun x => ρ x) c0 (d.getD 0) v u else ys E (.call { callee := .value (.func g), args := aA5, argTypes := ts }) ρ rows v u
 | op => ys E op ρ rows v u
theorem yU {E : Env} {c0 : Nat} {d : Option Tmp} {op : Op} {ρ : Operand → PV} {rows : Rows} {v : PV} {u : Option (Nat × Row)} (h : cU E op = false) : yn E c0 d op ρ rows v u = ys E op ρ rows v u := by
 unfold yn
 split
 all_goals first
  | rfl
  | (simp [cU] at h; done)
  | (simp only [cU] at h; rw [if_neg (by rw [h]; decide)])
theorem l6 {E : Env} {op : Op} {C : Prop} (h : cU E op = true) (h1 : ∀ t, op = .alloc t → C) (h2 : ∀ t x, op = .box t x → C) (h3 : ∀ t l c, op = .makeSlice t l c → C)
  (h4 : ∀ x y t t2, op = .call { callee := .builtin .append, args := ⟨[x, y]⟩, argTypes := ⟨[t, t2]⟩ } → C) (h5 : ∀ g aA5 ts, op = .call { callee := .value (.func g), args := aA5, argTypes := ts } → E.writes g = true → C) : C := by
 unfold cU at h
 split at h
 ·exact h1 _ rfl
 ·exact h2 _ _ rfl
 ·exact h3 _ _ _ rfl
 ·exact h4 _ _ _ _ rfl
 ·exact h5 _ _ _ rfl h
 ·cases h
theorem acD {rows rows' : Rows} {y : PV} {l : List (List PV)} (h : i6 (aZ y) rows rows') (hy : s8 rows y l) : s8 rows' y l ∧ ∀ id ∈ aZ y, ∃ r, rows id = some r := by
 unfold s8 at *
 cases y with
 | own id ver off len =>
  obtain ⟨r, hr, hh⟩ := hy
  exact ⟨⟨r, h id (by simp [aZ]) r hr, hh⟩, by simp [aZ]; exact ⟨r, hr⟩⟩
 | nil => exact ⟨hy, by simp [aZ]⟩
 | sl l => exact ⟨hy, by simp [aZ]⟩
 | i3 l => exact ⟨hy, by simp [aZ]⟩
 | _ => exact hy.elim
theorem W3 {t : TI} {rows rows' : Rows} {x y v : PV} {c0 d : Nat} {u : Option (Nat × Row)} (h : i6 (aZ x ++ aZ y) rows rows') (hy : pG t rows x y c0 d v u) : pG t rows' x y c0 d v u ∧ ∀ id ∈ aZ x ++ aZ y, ∃ r, rows id = some r := by
 unfold pG at *
 cases t with
 | slice e n b z =>
  obtain ⟨l, h1, h2, h3⟩ := hy
  obtain ⟨g1, g2⟩ := acD (fun id gL => h id (by simp only [List.mem_append]; exact .inr gL)) h1
  cases x with
  | nil => exact ⟨⟨l, g1, h2, h3⟩, fun id gL => g2 id (by simpa [aZ] using gL)⟩
  | own id ver off len =>
   obtain ⟨r, hr, hh⟩ := h3
   refine ⟨⟨l, g1, h2, r, h id (by simp [aZ]) r hr, hh⟩, fun iY gL => ?_⟩
   simp only [aZ, List.mem_append, List.mem_cons, List.not_mem_nil, or_false] at gL
   rcases gL with rfl | gL
   ·exact ⟨r, hr⟩
   ·exact g2 iY gL
  | _ => exact h3.elim
 | _ => exact hy.elim
theorem PU {E : Env} {c0 : Nat} {d : Option Tmp} {op : Op} {ρ : Operand → PV} {rows rows' : Rows} {v : PV} {u : Option (Nat × Row)} (h : i6 (gP op ρ) rows rows') (hy : yn E c0 d op ρ rows v u) :
  yn E c0 d op ρ rows' v u ∧ (∀ id ∈ gP op ρ, ∃ r, rows id = some r) ∧ ∀ id r, u = some (id, r) → (cU E op = true ∧ id = d.getD 0) ∨ id ∈ gP op ρ := by
 cases hn : cU E op with
 | false =>
  rw [yU hn] at hy ⊢
  obtain ⟨h1, h2, h3⟩ := afl h hy
  exact ⟨h1, h2, fun id r hu => .inr (h3 id r hu)⟩
 | true =>
  refine l6 hn ?_ ?_ ?_ ?_ ?_
  ·rintro t rfl
   refine ⟨hy, by simp [gP], fun id r hu => .inl ⟨by first | trivial | rfl, ?_⟩⟩
   obtain ⟨_, _, rfl⟩ := hy
   simp at hu; exact hu.1.symm
  ·rintro t x rfl
   refine ⟨hy, by simp [gP], fun id r hu => .inl ⟨by first | trivial | rfl, ?_⟩⟩
   obtain ⟨_, _, _, _, _, _, rfl⟩ := hy
   simp at hu; exact hu.1.symm
  ·rintro t l c rfl
   refine ⟨hy, by simp [gP], fun id r hu => .inl ⟨by first | trivial | rfl, ?_⟩⟩
   simp only [yn] at hy
   split at hy
   ·obtain ⟨_, _, _, _, _, rfl⟩ := hy
    simp at hu; exact hu.1.symm
   ·exact hy.elim
  ·rintro x y t t2 rfl
   simp only [yn, gP] at hy h ⊢
   obtain ⟨h2, h3⟩ := hy
   obtain ⟨g1, g2⟩ := W3 h h3
   refine ⟨⟨h2, g1⟩, g2, fun id r hu => ?_⟩
   unfold pG at h3
   split at h3
   ·obtain ⟨l, _, _, h3⟩ := h3
    split at h3
    ·obtain ⟨_, _, _, rfl⟩ := h3
     simp at hu; exact .inl ⟨by first | trivial | rfl, hu.1.symm⟩
    ·rename_i hx
     obtain ⟨_, _, _, _, _, _, _, _, _, _, rfl⟩ := h3
     simp at hu
     rw [hx]
     exact .inr (by simp [aZ, hu.1])
    ·exact h3.elim
   ·exact h3.elim
  ·rintro g aA5 ts rfl hw
   simp only [yn] at hy ⊢
   rw [if_pos hw] at hy
   rw [if_pos hw]
   refine ⟨hy, by simp [gP], fun id r hu => .inl ⟨by first | trivial | exact hw, ?_⟩⟩
   obtain ⟨_, _, _, _, _, _, rfl⟩ := hy
   simp at hu; exact hu.1.symm
open Classical in
noncomputable def dP (md : Region.Mode) (ops : List Oper) (j : Nat) (wl : Nat → Nat → Prop) (rows : Rows) : Rows := fun id => if ∃ k, wl k id ∧ nW md ops j k = false then none else rows id
theorem jV {md : Region.Mode} {ops : List Oper} {j id : Nat} {wl : Nat → Nat → Prop} {rows : Rows} {r : Row} : dP md ops j wl rows id = some r ↔ (∀ k, wl k id → nW md ops j k = true) ∧ rows id = some r := by
 unfold dP
 split
 ·rename_i h
  obtain ⟨k, h1, h2⟩ := h
  simp only [reduceCtorEq, false_iff, not_and]
  intro h3
  rw [h3 k h1] at h2; cases h2
 ·rename_i h
  refine ⟨fun h2 => ⟨fun k hk => ?_, h2⟩, fun h2 => h2.2⟩
  cases hd : nW md ops j k with
  | true => rfl
  | false => exact absurd ⟨k, hk, hd⟩ h
def yV (md : Region.Mode) (ops : List Oper) (i id : Nat) (bL : Nat → Nat → Prop) : Prop := ∀ k, bL k id → nW md ops i k = true
def S8 (md : Region.Mode) (ops : List Oper) (i : Nat) (u : Option (Nat × Row)) (bL : Nat → Nat → Prop) : Prop :=
 match u with
 | none => True
 | some (id, _) => yV md ops i id bL
def gOK (ops : Array Oper) (o : Oper) (f : Nat → PV) (b : Bool) : Prop :=
 match o.guard with
 | none => b = true
 | some (j, want) => ∃ d, (ops[j]?).bind (·.dst) = some d ∧ ((f d = .bool want ∧ b = true) ∨ ((f d = .bool (!want) ∨ f d = .eP []) ∧ b = false))
def YG (E : Env) (md : Region.Mode) (ops : Array Oper) (c0 : Nat) (i : Nat) (o : Oper) (b : Bool) (v : PV) (u : Option (Nat × Row)) (st : ST) : Prop :=
 gOK ops o st.f b ∧ if b = true then yn E (c0 + rk E ops.toList i) o.dst o.op (aQ st.f) (dP md ops.toList i st.wl st.rows) v u else v = .eP [] ∧ u = none
def wlU (i : Nat) (u : Option (Nat × Row)) (wl : Nat → Nat → Prop) : Nat → Nat → Prop :=
 match u with
 | none => wl
 | some (id, _) => fun k iY => (k = i ∧ iY = id) ∨ wl k iY
def app (i : Nat) (o : Oper) (b : Bool) (v : PV) (u : Option (Nat × Row)) (st : ST) : ST :=
 { f := put st.f o.dst v, rows := fE st.rows u, bL := fun k id => (b = true ∧ k = i ∧ id ∈ gP o.op (aQ st.f)) ∨ st.bL k id, wl := wlU i u st.wl }
def gQ (E : Env) (op : Op) (clk : Nat) : Nat :=
 match op with
 | .alloc _ => clk + 1
 | .box _ _ => clk + 1
 | .makeSlice _ _ _ => clk + 1
 | .call { callee := .builtin .append, args := ⟨[_, _]⟩, argTypes := ⟨[_, _]⟩ } => clk + 1
 | .call { callee := .value (.func g), args := _, argTypes := _ } => if E.writes g = true then clk + 1 else clk
 | _ => clk
theorem yW {E : Env} {op : Op} {clk : Nat} (h : cU E op = false) : gQ E op clk = clk := by
 unfold gQ
 split
 all_goals first
  | rfl
  | (simp [cU] at h; done)
  | (simp only [cU] at h; rw [if_neg (by rw [h]; decide)])
theorem W4 {E : Env} {op : Op} {clk : Nat} (h : cU E op = true) : gQ E op clk = clk + 1 := by
 refine l6 h ?_ ?_ ?_ ?_ ?_
 ·rintro t rfl; rfl
 ·rintro t x rfl; rfl
 ·rintro t l c rfl; rfl
 ·rintro x y t t2 rfl; rfl
 ·rintro g aA5 ts rfl hw; simp only [gQ]; rw [if_pos hw]
theorem acF {E : Env} {ops : List Oper} {i c0 : Nat} {o : Oper} (h : ops[i]? = some o) : gQ E o.op (c0 + rk E ops i) = c0 + rk E ops (i + 1) := by
 rw [PT h]
 cases hn : cU E o.op with
 | false => rw [yW hn]; simp
 | true => rw [W4 hn]; simp; omega
def W5 (E : Env) (md : Region.Mode) (ops : Array Oper) (c0 : Nat) (i : Nat) (K : ST → Prop) (st : ST) : Prop :=
 match ops[i]? with
 | none => K st
 | some o => ∃ b v u, YG E md ops c0 i o b v u st ∧ S8 md ops.toList i u st.bL ∧ K (app i o b v u st)
section
variable {E : Env} {ops : Array Oper} {md : Region.Mode}
theorem W6 {c0 i : Nat} {K K' : ST → Prop} {st : ST} (h : ∀ st, K st → K' st) (hh : W5 E md ops c0 i K st) : W5 E md ops c0 i K' st := by
 unfold W5 at *
 split
 ·exact h _ (by simpa [*] using hh)
 ·rename_i o ho
  simp only [ho] at hh
  obtain ⟨b, v, u, h1, h2, h3⟩ := hh
  exact ⟨b, v, u, h1, h2, h _ h3⟩
theorem PW {f : Nat → PV} {d : Option Tmp} {v : PV} {x : Operand} (h : ∀ t, d = some t → x ≠ .tmp t) : aQ (put f d v) x = aQ f x := by
 cases d with
 | none => rfl
 | some t =>
  cases x with
  | tmp s =>
   have : s ≠ t := fun e => h t rfl (by rw [e])
   simp [aQ, put, this]
  | _ => rfl
theorem W7 {op : Op} {ρ ρ' : Operand → PV} {rows : Rows} {v : PV} {u : Option (Nat × Row)} (h : ∀ x ∈ op.operands, ρ x = ρ' x) : ys E op ρ rows v u ↔ ys E op ρ' rows v u := by
 have parts : ∀ ps : Array (Nat × Operand), (∀ x ∈ (ps.toList.map (·.2)).toArray, ρ x = ρ' x) → (ps.toList.map fun x => (x.1, ρ x.2)) = ps.toList.map fun x => (x.1, ρ' x.2) := fun ps hp =>
  List.map_congr_left fun p hm => by rw [hp p.2 (by simp; exact ⟨p.1, by simpa using hm⟩)]
 have args : ∀ (c : Call), (∀ x ∈ c.operands, ρ x = ρ' x) → ∀ x ∈ c.args.toList, ρ x = ρ' x := fun c hc x hx => hc x (by simp [Call.operands]; exact .inr (by simpa using hx))
 unfold ys
 split
 ·rename_i t p x
  rw [h p (by simp [Op.operands]), h x (by simp [Op.operands])]
 ·rename_i t len ps
  rw [parts ps (by simpa [Op.operands] using h)]
 ·rename_i f aA5 ts
  have ha := args _ (by simpa [Op.operands] using h)
  simp only at ha
  rw [h f (by simp [Op.operands, Call.operands]), List.map_congr_left (g := fun x => pz rows (ρ' x)) fun x hx => by rw [ha x hx]]
  have : (aA5.toList.flatMap fun x => dC (ρ x)) = aA5.toList.flatMap fun x => dC (ρ' x) := by
   rw [List.flatMap_def, List.flatMap_def]
   congr 1
   exact List.map_congr_left fun x hx => by rw [ha x hx]
  rw [this]
 ·suffices hs : yv E op ρ rows v ↔ yv E op ρ' rows v by rw [hs]
  unfold yv
  split
  case h_12 =>
   rename_i t x lo hi mx _ _ _
   have o1 : ∀ y : Option Operand, (∀ z, y = some z → ρ z = ρ' z) → y.map ρ = y.map ρ' := by
    intro y hy; cases y with
    | none => rfl
    | some z => simp [hy z rfl]
   rw [h x (by simp [Op.operands]), o1 lo fun z hz => h z (by subst hz; simp [Op.operands]), o1 hi fun z hz => h z (by subst hz; simp [Op.operands]), o1 mx fun z hz => h z (by subst hz; simp [Op.operands])]
  case h_13 => rename_i t ps _ _ _; rw [parts ps (by simpa [Op.operands] using h)]
  case h_15 =>
   rename_i f bT _ _ _
   rw [List.map_congr_left (l := bT.toList) (f := fun x => ρ x) (g := fun x => ρ' x) fun x hx => h x (by simp [Op.operands]; simpa using hx)]
  all_goals first
   | rfl
   | (simp only [Op.operands, Call.operands] at h; simp [h])
theorem yX {op : Op} {ρ ρ' : Operand → PV} (h : ∀ x ∈ op.operands, ρ x = ρ' x) : gP op ρ = gP op ρ' := by
 unfold gP
 split
 all_goals first
  | rfl
  | (simp only [Op.operands, Call.operands] at h; simp [h])
theorem HK {c0 : Nat} {d : Option Tmp} {op : Op} {ρ ρ' : Operand → PV} {rows : Rows} {v : PV} {u : Option (Nat × Row)} (h : ∀ x ∈ op.operands, ρ x = ρ' x) : yn E c0 d op ρ rows v u ↔ yn E c0 d op ρ' rows v u := by
 cases hn : cU E op with
 | false => rw [yU hn, yU hn]; exact W7 h
 | true =>
  refine l6 hn ?_ ?_ ?_ ?_ ?_
  ·rintro t rfl; exact Iff.rfl
  ·rintro t x rfl
   simp only [yn]
   rw [h x (by simp [Op.operands])]
  ·rintro t l c rfl
   simp only [yn]
   rw [h l (by simp [Op.operands]), h c (by simp [Op.operands])]
  ·rintro x y t t2 rfl
   simp only [yn]
   rw [h x (by simp [Op.operands, Call.operands]), h y (by simp [Op.operands, Call.operands])]
  ·rintro g aA5 ts rfl hw
   simp only [yn]
   rw [if_pos hw, if_pos hw, List.map_congr_left (l := aA5.toList) (f := fun x => ρ x) (g := fun x => ρ' x) fun x hx => h x (by simp [Op.operands, Call.operands]; exact .inr (by simpa using hx))]
theorem HL {o : Oper} {d : Tmp} {x : Operand} (h : d ∉ o.looksAt ops) (hx : x ∈ o.op.operands) : x ≠ .tmp d := by
 rintro rfl
 exact h (List.mem_append_left _ (List.mem_filterMap.2 ⟨.tmp d, by simpa using hx, rfl⟩))
theorem L8 {c : Cx} : aK c (.eP []) undef := by
 show cK c.S c.w (.eP []) undef
 simp only [cK]
 exact ⟨[], rfl, rfl⟩
theorem gI {c : Cx} {tmps : Array Value} {j : Nat} {d : Tmp} {t : Bool} (h1 : (ops[j]?).bind (·.dst) = some d) (h : aK c (.bool t) (tmps.getD d undef)) : yielded ops tmps j = some t := by
 rw [cX] at h
 unfold yielded
 rw [h1]
 simp only [Option.bind_some]
 cases hx : tmps[d]? with
 | none => simp [hx] at h; cases h
 | some y =>
  have hy : y = .bool t := by simpa [hx] using h
  rw [hy]
theorem r6 {c : Cx} {tmps : Array Value} {j : Nat} {d : Tmp} (h1 : (ops[j]?).bind (·.dst) = some d) (h : aK c (.eP []) (tmps.getD d undef)) : yielded ops tmps j = none := by
 have h2 : tmps.getD d undef = .tuple #[] := by
  have h3 : cK c.S c.w (.eP []) (tmps.getD d undef) := h
  simp only [cK] at h3
  obtain ⟨vs, h4, h5⟩ := h3
  simp only [bI] at h5
  rw [h4, h5]
 unfold yielded
 rw [h1]
 simp only [Option.bind_some]
 cases hx : tmps[d]? with
 | none => rfl
 | some y =>
  have hy : y = .tuple #[] := by simpa [hx] using h2
  rw [hy]
theorem PY {o : Oper} {f : Nat → PV} {dd : Option Tmp} {v : PV} {b : Bool} (h : ∀ d, dd = some d → d ∉ o.looksAt ops) : gOK ops o (put f dd v) b ↔ gOK ops o f b := by
 unfold gOK
 cases hg : o.guard with
 | none => rfl
 | some g =>
  obtain ⟨j, want⟩ := g
  simp only
  have key : ∀ d, (ops[j]?).bind (·.dst) = some d → put f dd v d = f d := by
   intro d h1
   cases dd with
   | none => rfl
   | some e =>
    have qI : d ≠ e := by
     rintro rfl
     exact h d rfl (List.mem_append_right _ (by simp [hg, h1]))
    simp [put, qI]
  constructor
  ·rintro ⟨d, h1, h2⟩
   rw [key d h1] at h2
   exact ⟨d, h1, h2⟩
  ·rintro ⟨d, h1, h2⟩
   rw [← key d h1] at h2
   exact ⟨d, h1, h2⟩
theorem put_comm {f : Nat → PV} {x y : Option Tmp} {v u : PV} (h : ∀ d, x = some d → y ≠ some d) : put (put f x v) y u = put (put f y u) x v := by
 cases x with
 | none => rfl
 | some d =>
  cases y with
  | none => rfl
  | some e =>
   have qI : d ≠ e := fun he => h d rfl (by rw [he])
   funext j
   simp only [put]
   split <;> split <;> simp_all
theorem yY {rows : Rows} {u : Option (Nat × Row)} {j : Nat} (h : ∀ r, u ≠ some (j, r)) : fE rows u j = rows j := by
 cases u with
 | none => rfl
 | some x =>
  obtain ⟨i, r⟩ := x
  simp only [fE, dF]
  rw [if_neg]
  rintro rfl
  exact h r rfl
theorem nX {i : Nat} {u : Option (Nat × Row)} {wl : Nat → Nat → Prop} {k id : Nat} : wlU i u wl k id ↔ (k = i ∧ ∃ r, u = some (id, r)) ∨ wl k id := by
 cases u with
 | none => simp [wlU]
 | some x =>
  obtain ⟨iY, r⟩ := x
  simp only [wlU, Option.some.injEq, Prod.mk.injEq]
  constructor
  ·rintro (⟨h1, h2⟩ | h)
   ·exact .inl ⟨h1, r, h2.symm, rfl⟩
   ·exact .inr h
  ·rintro (⟨h1, r', h2, _⟩ | h)
   ·exact .inl ⟨h1, h2.symm⟩
   ·exact .inr h
theorem ER {i : Nat} {u : Option (Nat × Row)} {bL : Nat → Nat → Prop} : S8 md ops.toList i u bL ↔ ∀ id r, u = some (id, r) → ∀ k, bL k id → nW md ops.toList i k = true := by
 cases u with
 | none => simp [S8]
 | some x =>
  obtain ⟨iY, r⟩ := x
  simp only [S8, yV, Option.some.injEq, Prod.mk.injEq]
  constructor
  ·rintro h _ _ ⟨rfl, _⟩; exact h
  ·intro h; exact h _ _ ⟨rfl, rfl⟩
theorem acG {c0 i j : Nat} {oi oj : Oper} {bi : Bool} {vi : PV} {ui : Option (Nat × Row)} (hj : ops[j]? = some oj) (WN : oi.apart ops oj = true) (hds : cU E oi.op = true → oi.dst.isSome = true) (asq : cU E oj.op = true → oj.dst.isSome = true) (hdj : nW md ops.toList j i = false) {K : ST → Prop} {st : ST}
  (hy : YG E md ops c0 i oi bi vi ui st) (ho : S8 md ops.toList i ui st.bL) (h : W5 E md ops c0 j K (app i oi bi vi ui st)) :
  W5 E md ops c0 j (fun PZ => YG E md ops c0 i oi bi vi ui PZ ∧ S8 md ops.toList i ui PZ.bL ∧ K (app i oi bi vi ui PZ)) st := by
 obtain ⟨h1, h2, h3⟩ := Oper.apart_spec WN
 unfold W5 at h ⊢
 simp only [hj] at h ⊢
 obtain ⟨bj, vj, uj, ⟨hgj, hyj⟩, hoj, hK⟩ := h
 obtain ⟨hgi, S9⟩ := hy
 rw [ER] at hoj ho
 have ej : ∀ x ∈ oj.op.operands, aQ (put st.f oi.dst vi) x = aQ st.f x := fun x hx => PW fun t ht => HL (h1 t ht) hx
 have ei : ∀ x ∈ oi.op.operands, aQ (put st.f oj.dst vj) x = aQ st.f x := fun x hx => PW fun t ht => HL (h3 t ht) hx
 have asr : gOK ops oj st.f bj := (PY h1).1 hgj
 have hnw : ∀ id r, dP md ops.toList j (app i oi bi vi ui st).wl (app i oi bi vi ui st).rows id = some r → ∀ r', ui ≠ some (id, r') := by
  intro id r hr r' hu
  obtain ⟨hw, _⟩ := jV.1 hr
  have := hw i (nX.2 (.inl ⟨rfl, r', hu⟩))
  rw [hdj] at this; cases this
 have hle : ∀ ids, i6 ids (dP md ops.toList j (app i oi bi vi ui st).wl (app i oi bi vi ui st).rows) (dP md ops.toList j st.wl st.rows) := by
  intro ids id _ r hr
  have hn := hnw id r hr
  obtain ⟨hw, jQ⟩ := jV.1 hr
  simp only [app] at jQ hw
  rw [yY hn] at jQ
  exact jV.2 ⟨fun k hk => hw k (nX.2 (.inr hk)), jQ⟩
 have ass : (if bj = true then yn E (c0 + rk E ops.toList j) oj.dst oj.op (aQ st.f) (dP md ops.toList j st.wl st.rows) vj uj else vj = .eP [] ∧ uj = none) ∧
   (bj = true → ∀ id ∈ gP oj.op (aQ st.f), ∃ r, dP md ops.toList j (app i oi bi vi ui st).wl (app i oi bi vi ui st).rows id = some r) ∧ (∀ id r, uj = some (id, r) → bj = true ∧ ((cU E oj.op = true ∧ id = oj.dst.getD 0) ∨ id ∈ gP oj.op (aQ st.f))) := by
  by_cases hb : bj = true
  ·rw [if_pos hb] at hyj ⊢
   have acH := (HK ej).1 hyj
   obtain ⟨g1, g2, g3⟩ := PU (hle _) acH
   exact ⟨g1, fun _ => g2, fun id r hu => ⟨hb, g3 id r hu⟩⟩
  ·rw [if_neg hb] at hyj ⊢
   exact ⟨hyj, fun h => absurd h hb, fun id r hu => by rw [hyj.2] at hu; cases hu⟩
 obtain ⟨ast, acH, asu⟩ := ass
 have asv : S8 md ops.toList j uj st.bL := ER.2 fun id r hu k hk => hoj id r hu k (.inr hk)
 have hfi : ∀ id r, uj = some (id, r) → ¬ (bi = true ∧ id ∈ gP oi.op (aQ st.f)) := by
  intro id r hu hh
  have := hoj id r hu i (.inl ⟨hh.1, rfl, hh.2⟩)
  rw [hdj] at this; cases this
 have hui : ∀ id r, ui = some (id, r) → bi = true ∧ ((cU E oi.op = true ∧ id = oi.dst.getD 0) ∨ id ∈ gP oi.op (aQ st.f)) := by
  intro id r hu
  by_cases hb : bi = true
  ·rw [if_pos hb] at S9
   exact ⟨hb, (PU (rows' := dP md ops.toList i st.wl st.rows) (fun id _ r hr => hr) S9).2.2 id r hu⟩
  ·rw [if_neg hb] at S9
   rw [S9.2] at hu; cases hu
 have qI : ∀ id r r', ui = some (id, r) → uj = some (id, r') → False := by
  intro id r r' hu1 hu2
  obtain ⟨hb, hh⟩ := asu id r' hu2
  rcases hh with hh | hh
  ·obtain ⟨EM, hh1⟩ := hui id r hu1
   rcases hh1 with hh1 | hh1
   ·obtain ⟨d, hd⟩ := Option.isSome_iff_exists.1 (hds hh1.1)
    have e1 : id = d := by rw [hh1.2, hd]; rfl
    cases ahD : oj.dst with
    | none => exact absurd ahD (fun he => by have := asq hh.1; rw [he] at this; cases this)
    | some d' =>
     have e2 : id = d' := by rw [hh.2, ahD]; rfl
     exact h2 d hd (by rw [ahD, ← e2, e1])
   ·exact hfi id r' hu2 ⟨EM, hh1⟩
  ·obtain ⟨r'', asw⟩ := acH hb id hh
   exact hnw id r'' asw r hu1
 have asx : bi = true → i6 (gP oi.op (aQ st.f)) (dP md ops.toList i st.wl st.rows) (dP md ops.toList i (app j oj bj vj uj st).wl (app j oj bj vj uj st).rows) := by
  intro hb id gL r hr
  obtain ⟨hw, jQ⟩ := jV.1 hr
  have hn : ∀ r', uj ≠ some (id, r') := fun r' hu => hfi id r' hu ⟨hb, gL⟩
  refine jV.2 ⟨fun k hk => ?_, ?_⟩
  ·rcases nX.1 hk with ⟨_, r', hu⟩ | hk
   ·exact absurd hu (hn r')
   ·exact hw k hk
  ·simp only [app]; rw [yY hn]; exact jQ
 refine ⟨bj, vj, uj, ⟨asr, ast⟩, asv, ⟨(PY h3).2 hgi, ?_⟩, ?_, ?_⟩
 ·by_cases hb : bi = true
  ·rw [if_pos hb] at S9 ⊢
   refine (HK ei).2 ?_
   exact (PU (asx hb) S9).1
  ·rw [if_neg hb] at S9 ⊢; exact S9
 ·-- i's own row has not axY aql
  rw [ER]
  rintro id r hu k (⟨hb, rfl, hh⟩ | hh)
  ·obtain ⟨r', jQ⟩ := acH hb id hh
   exact absurd hu (hnw id r' jQ r)
  ·exact ho id r hu k hh
 ·have : app i oi bi vi ui (app j oj bj vj uj st) = app j oj bj vj uj (app i oi bi vi ui st) := by
   simp only [app, ST.mk.injEq]
   refine ⟨put_comm fun d hd => fun W8 => (h2 d) (by first | exact hd | exact W8) (by first | exact W8 | exact hd), ?_, ?_, ?_⟩
   ·cases ui with
    | none => rfl
    | some x =>
     cases uj with
     | none => rfl
     | some y =>
      obtain ⟨id, r⟩ := x
      obtain ⟨iY, r'⟩ := y
      have : id ≠ iY := fun e => qI id r r' rfl (by rw [e])
      funext k
      simp only [fE, dF]
      split <;> split <;> simp_all
   ·funext k id
    have e1 : gP oi.op (aQ (put st.f oj.dst vj)) = gP oi.op (aQ st.f) := yX ei
    have e2 : gP oj.op (aQ (put st.f oi.dst vi)) = gP oj.op (aQ st.f) := yX ej
    rw [e1, e2]
    apply propext
    constructor
    ·rintro (h | h | h)
     ·exact .inr (.inl h)
     ·exact .inl h
     ·exact .inr (.inr h)
    ·rintro (h | h | h)
     ·exact .inr (.inl h)
     ·exact .inl h
     ·exact .inr (.inr h)
   ·funext k id
    apply propext
    rw [nX, nX, nX, nX]
    constructor
    ·rintro (h | h | h)
     ·exact .inr (.inl h)
     ·exact .inl h
     ·exact .inr (.inr h)
    ·rintro (h | h | h)
     ·exact .inr (.inl h)
     ·exact .inl h
     ·exact .inr (.inr h)
  rw [this]; exact hK
theorem HM {j k : Nat} : S7 md ops.toList j k = true ↔ ∃ oj, ops[j]? = some oj ∧ ∃ e ∈ oj.after, Region.binds md e = true ∧ e.on = k := by
 unfold S7
 cases h : ops[j]? with
 | none => simp [show ops.toList[j]? = none by simpa using h]
 | some oj =>
  rw [show ops.toList[j]? = some oj by simpa using h]
  simp only [List.any_eq_true, Bool.and_eq_true, beq_iff_eq, Option.some.injEq]
  constructor
  ·rintro ⟨e, he, h1, h2⟩; exact ⟨oj, rfl, e, by simpa using he, h1, h2⟩
  ·rintro ⟨_, rfl, e, he, h1, h2⟩; exact ⟨e, by simpa using he, h1, h2⟩
theorem acI {n j i : Nat} {oj : Oper} {aY : Array Bool} (hj : ops[j]? = some oj) (inv : HeadInv md ops n aY) (hr : ∀ e ∈ oj.after, Region.binds md e = true → aY.getD e.on false = true) (LA : aY.getD i false = false) : nW md ops.toList j i = false := by
 have one : ∀ k, S7 md ops.toList j k = true → aY.getD k false = true := fun k hk => by
  obtain ⟨o, ho, e, he, h1, rfl⟩ := HM.1 hk
  rw [hj] at ho; cases ho
  exact hr e he h1
 cases hd : nW md ops.toList j i with
 | false => rfl
 | true =>
  exfalso
  unfold nW at hd
  rcases Bool.or_eq_true_iff.1 hd with h | h
  ·rw [one i h] at LA; cases LA
  ·obtain ⟨k, _, hk⟩ := List.any_eq_true.1 h
   obtain ⟨h1, h2⟩ := Bool.and_eq_true_iff.1 hk
   obtain ⟨o, ho, e, he, h3, rfl⟩ := HM.1 h2
   rw [inv.closed k o ho (one k h1) e he h3] at LA; cases LA
end
section
variable {E : Env} {ops : Array Oper} {md : Region.Mode}
def HN (E : Env) (md : Region.Mode) (ops : Array Oper) (c0 n : Nat) (L : Array Bool → ST → Prop) : Nat → Array Bool → ST → Prop
 | 0, aY, st => L aY st
 | f + 1, aY, st => Region.ready md ops aY ≠ [] ∧ ∀ i ∈ Region.ready md ops aY, i < n ∧ W5 E md ops c0 i (HN E md ops c0 n L f (aY.setIfInBounds i true)) st
theorem HO {c0 n i : Nat} {oi : Oper} {b : Bool} {v : PV} {u : Option (Nat × Row)} {L : Array Bool → ST → Prop} (hi : ops[i]? = some oi) (nU : ∀ i oi, i < n → ops[i]? = some oi → cU E oi.op = true → oi.dst.isSome = true)
  (yZ : ∀ aY, HeadInv md ops n aY → ∀ i, i < n → aY.getD i true = false → ∀ t, n ≤ t → t ∉ Region.ready md ops aY) (hin : i < n)
  (amM : ∀ aY st, L aY st → ∀ j ∈ Region.ready md ops aY, n ≤ j) :
  ∀ (f : Nat) (aY : Array Bool) (st : ST), HeadInv md ops n aY →
   (∀ j oj, ops[j]? = some oj → j ≠ i → aY.getD j true = false → (∀ e ∈ oj.after, Region.binds md e = true → e.on ≠ i) → oi.apart ops oj = true) →
   i ∈ Region.ready md ops aY → YG E md ops c0 i oi b v u st → S8 md ops.toList i u st.bL →
   HN E md ops c0 n L f (aY.setIfInBounds i true) (app i oi b v u st) → HN E md ops c0 n L (f + 1) aY st := by
 intro f
 induction f with
 | zero =>
  intro aY st inv _ hr hy ho H
  have LA := (mem_ready.1 hr).1
  refine ⟨fun h => (by rw [h] at hr; cases hr), fun j hj => ?_⟩
  have hjn : j < n := by
   rcases Nat.lt_or_ge j n with h | h
   ·exact h
   ·exact absurd hj (yZ aY inv i hin LA j h)
  refine ⟨hjn, ?_⟩
  by_cases hji : j = i
  ·subst hji; unfold W5; simp only [hi]; exact ⟨b, v, u, hy, ho, H⟩
  ·have := amM _ _ H j (ready_mono hj hji)
   omega
 | succ f ih =>
  intro aY st inv afp hr hy ho H
  have LA := (mem_ready.1 hr).1
  refine ⟨fun h => (by rw [h] at hr; cases hr), fun j hj => ?_⟩
  have hjn : j < n := by
   rcases Nat.lt_or_ge j n with h | h
   ·exact h
   ·exact absurd hj (yZ aY inv i hin LA j h)
  refine ⟨hjn, ?_⟩
  by_cases hji : j = i
  ·subst hji; unfold W5; simp only [hi]; exact ⟨b, v, u, hy, ho, H⟩
  ·have h1 := (H.2 j (ready_mono hj hji)).2
   obtain ⟨amO, oj, hoj, r7⟩ := mem_ready.1 hj
   have ahE : ∀ e ∈ oj.after, Region.binds md e = true → e.on ≠ i := fun e he hb heq => by
    have h1 := r7 e he hb
    rw [heq, getD_both LA] at h1
    cases h1
   have h2 := acG hoj (afp j oj hoj hji amO ahE) (nU i oi hin hi) (nU j oj hjn hoj) (acI hoj inv r7 (getD_both LA)) hy ho h1
   have ahF : ∀ k ok, ops[k]? = some ok → k ≠ i → (aY.setIfInBounds j true).getD k true = false →
     (∀ e ∈ ok.after, Region.binds md e = true → e.on ≠ i) → oi.apart ops ok = true := fun k ok hk hki amP hno => by
    refine afp k ok hk hki ?_ hno
    by_cases hjk : j = k
    ·subst hjk; exact amO
    ·rw [getD_set_ne true hjk] at amP; exact amP
   refine W6 (fun PZ h3 => ih (aY.setIfInBounds j true) PZ (inv.set hj hjn) ahF (ready_mono hr (Ne.symm hji)) h3.1 h3.2.1 ?_) h2
   rw [Array.setIfInBounds_comm _ _ hji]
   exact h3.2.2
def ahH (E : Env) (md : Region.Mode) (ops : Array Oper) (c0 : Nat) (Lq : ST → Prop) : Nat → List Oper → ST → Prop
 | _, [], st => Lq st
 | k, o :: os, st => ∃ b v u, YG E md ops c0 k o b v u st ∧ S8 md ops.toList k u st.bL ∧ ahH E md ops c0 Lq (k + 1) os (app k o b v u st)
theorem qJ {c0 n g : Nat} {Lq : ST → Prop} (nU : ∀ i oi, i < n → ops[i]? = some oi → cU E oi.op = true → oi.dst.isSome = true) (yZ : ∀ aY, HeadInv md ops n aY → ∀ i, i < n → aY.getD i true = false → ∀ t, n ≤ t → t ∉ Region.ready md ops aY) :
  ∀ (l : List Oper) (k : Nat) (aY : Array Bool) (st : ST), (∀ j, j < l.length → l[j]? = ops[k + j]?) → k + l.length = n → HeadInv md ops n aY →
  Region.lexHead md ops g l.length k aY = true → ahH E md ops c0 Lq k l st →
  HN E md ops c0 n (fun P3 PZ => Region.seqB md ops g n P3 = true ∧ Lq PZ) l.length aY st
 | [], k, aY, st, _, hk, _, hB, h => by
  have : k = n := by simpa using hk
  subst this
  exact ⟨by simpa [Region.lexHead] using hB, h⟩
 | o :: l, k, aY, st, hl, hk, inv, hB, h => by
  have h0 : ops[k]? = some o := by simpa using (hl 0 (by simp)).symm
  simp only [List.length_cons, Region.lexHead, Bool.and_eq_true] at hB
  obtain ⟨⟨hr, hf⟩, hB'⟩ := hB
  have hkn : k < n := by simp only [List.length_cons] at hk; omega
  have jQ : k ∈ Region.ready md ops aY := by simpa using hr
  obtain ⟨b, v, u, hy, ho, hK⟩ := h
  exact HO h0 nU yZ hkn (fun P3 PZ hL => seqB_ready hL.1) l.length aY st inv (Region.free_spec h0 hf) jQ hy ho
   (qJ nU yZ l (k + 1) _ _ (fun j hj => by have := hl (j + 1) (by simp; omega); simpa [Nat.add_assoc, Nat.add_comm 1 j] using this) (by simp only [List.length_cons] at hk; omega) (inv.set jQ hkn) hB' hK)
variable {w0 : World} {S0 : dB} {m : Nat} {G : Gs}
theorem L9 {o : Oper} {a : Act} {w : World} {f : Nat → PV} {rows : Rows} {U : Nat → Prop} {c0 : Nat} {v : PV} {u : Option (Nat × Row)} (PQ : ¬ U c0) {g : FuncId} {aA5 : Array Operand} {ts : Array TypeId} (ho : o.op = .call { callee := .value (.func g), args := aA5, argTypes := ts })
  (hy : afm E g (aA5.toList.map fun x => aQ f x) c0 (o.dst.getD 0) v u) (hR : nV w0 S0 m G U f rows a w) (hd : ∀ t, o.dst = some t → t < m)
  {K' : Act → World → Prop} {Q : Exit → Act → World → Prop} (hK : ∀ a' w', nV w0 S0 m G (fun v => v = c0 ∨ U v) (put f o.dst v) (fE rows u) a' w' → K' a' w') : o.wp E.P a w K' Q := by
 obtain ⟨⟨c, rfl, hr, fA, hI, hf, hG⟩, hn, eJ⟩ := hR
 have hρ := kS hf
 have hfu : ¬ c.used c0 := fun hu => PQ (fA _ hu)
 obtain ⟨rL, e, n, els, ⟨⟨fn, b, h1, h2, h3⟩, L4⟩, rfl, rfl⟩ := hy
 obtain ⟨dst, op, type, pos, after, guard⟩ := o
 simp only at ho hd hK
 subst ho
 have fO : a7 (aK c) (aA5.toList.map fun x => aQ f x) (aA5.map a.eval).toList := by
  refine a7.cW (by simp) fun k p u hp hu => ?_
  simp at hp hu
  obtain ⟨x, hx, rfl⟩ := hp
  obtain ⟨y, hy, rfl⟩ := hu
  rw [hx] at hy; cases hy
  exact hρ x
 have fD : bI c.S c.w (aA5.toList.map fun x => aQ f x) (aA5.map a.eval).toList := cE.2 (a7.cW fO.length fun k p u hp hu => by
  obtain ⟨u', q1, q2⟩ := fO.get hp
  rw [hu] at q1; cases q1
  exact q2.rep (List.all_eq_true.1 rL p (List.mem_of_getElem? hp)))
 have pF := L4 c.w c.S _ (fun b o hb => hI.lt hb) fD
 simp only [Array.toArray_toList] at pF
 have hfo := hρ (.func g)
 simp only [aQ, aK, aP, cK] at hfo
 obtain ⟨cs, hfv, G3⟩ := hfo
 simp only [bI] at G3
 subst G3
 unfold Oper.wp
 have i5 : (execOp a.eval { dst := dst, op := .call { callee := .value (.func g), args := aA5, argTypes := ts }, type := type, pos := pos, after := after, guard := guard }).run E.P c.w = .ok (.enter g (aA5.map a.eval)) c.w := by
  simp only [execOp, resolve, hfv, Deferred.ofValue, Sem.run_bind, Sem.run_pure, Result.andThen_ok, invoke]
  simpa using lB h1 h2 h3 (aA5.map a.eval) c.w
 rw [i5]
 refine pF.mono ?_
 rintro x w' ⟨v', xs, S', rfl, hb, g1, g2, g3, g4, g5, g6, g7, g8⟩
 obtain ⟨hI2, hA2⟩ := hI.grow hb g1 g2
 obtain ⟨hI3, hA3⟩ := hI2.set (w' := w') (ob := v'.ownBlock) (id := dst.getD 0) (r' := ⟨c0, e, n, els⟩) (v' := v') (xs := xs) (World.grownBy.refl _ _)
  (fun g hg => by
   have hge := (g3.lt g hg).1
   refine ⟨by have := hI.below.size; omega, fun o => g8 g o hg, fun iY r hr _ yF => ?_⟩
   obtain ⟨⟨ys, q1, _, _⟩, _⟩ := hI.row iY r hr
   have := (q1.lt g yF).2
   omega) ⟨g3.1, g3.2.imp id fun ⟨g, cap, cur, q1, q2, q3⟩ => ⟨g, cap, cur, q1, Nat.le_trans hI.below.size q2, q3⟩⟩ (g4.mono fun _ _ h => aP.i4 h) g5 g6 g7 (fun g hg => .inl hg) hfu
 refine hK _ _ ?_
 have hf2 : ∀ s, aK { c with S := S', w := w' } (f s) (a.tmps.getD s undef) := fun s => aK.rU hA2 _ _ (hf s)
 have hG2 : ∀ p ∈ G, aK { c with S := S', w := w' } p.1 p.2 := fun p hp => aK.rU hA2 _ _ (hG p hp)
 refine m9 hf2 hG2 hn eJ hA3 hI3 ?_ hd rfl (by simp [fE, hr]) (fun v hv => hv.imp (fun h => h) (fA v))
 rcases g3.2 with ⟨rfl, h8⟩ | ⟨g, jS, cur, rfl, _⟩
 ·have : els.length = 0 := h8
  rw [this]
  exact kB (r := ⟨c0, e, n, els⟩) (A := none) (cap := 0) (by simp [dF]) (by simpa using h8) (Or.inl rfl) (by simp [dF])
 ·exact kB (r := ⟨c0, e, n, els⟩) (by simp [dF]) rfl (Or.inl rfl) (by simp [dF])
theorem W9 {o : Oper} {a : Act} {w : World} {f : Nat → PV} {rows : Rows} {U : Nat → Prop} {c0 : Nat} {v : PV} {u : Option (Nat × Row)} (PQ : ¬ U c0) (hn : cU E o.op = true) (hy : yn E c0 o.dst o.op (aQ f) rows v u) (hR : nV w0 S0 m G U f rows a w) (hd : ∀ t, o.dst = some t → t < m)
  {K' : Act → World → Prop} {Q : Exit → Act → World → Prop} (hK : ∀ a' w', nV w0 S0 m G (fun v => v = c0 ∨ U v) (put f o.dst v) (fE rows u) a' w' → K' a' w') : o.wp E.P a w K' Q := by
 by_cases pF : ∃ g aA5 ts, o.op = .call { callee := .value (.func g), args := aA5, argTypes := ts } ∧ E.writes g = true
 ·obtain ⟨g, aA5, ts, ho, hw⟩ := pF
  rw [ho] at hy
  simp only [yn] at hy
  rw [if_pos hw] at hy
  exact L9 PQ ho hy hR hd hK
 refine tA (ver := c0) PQ (K := fun _ f' rows' => f' = put f o.dst v ∧ rows' = fE rows u) ?_ hR hd (fun i f' rows' a' w' h kC => by
  obtain ⟨rfl, rfl⟩ := h
  exact hK a' w' (kC.mono fun v hv => hv.imp (fun h => h.2) fun h => h))
 obtain ⟨dst, op, type, pos, after, guard⟩ := o
 simp only at hn hy pF ⊢
 refine l6 hn ?_ ?_ ?_ ?_ ?_
 ·rintro t rfl
  simp only [yn] at hy
  obtain ⟨h2, rfl, rfl⟩ := hy
  exact ⟨h2, rfl, rfl⟩
 ·rintro t x rfl
  simp only [yn] at hy
  obtain ⟨h2, l, h3, h4, h5, rfl, rfl⟩ := hy
  exact ⟨h2, l, h3, fun q hq => EP (fun id _ r hr => by cases hr) (h4 q hq), h5, rfl, rfl⟩
 ·rintro t l cc rfl
  simp only [yn] at hy
  simp only [mT]
  split at hy
  ·rename_i e n b z k1 x k2 y hE hl hc
   obtain ⟨g1, g2, g3, g4, rfl, rfl⟩ := hy
   try rw [hE, hl, hc]
   exact ⟨g1, g2, g3, g4, rfl, rfl⟩
  ·exact hy.elim
 ·rintro x y t t2 rfl
  simp only [yn] at hy
  obtain ⟨h2, hy⟩ := hy
  simp only [mT]
  refine ⟨h2, ?_⟩
  unfold pG at hy
  unfold nB
  split at hy
  ·rename_i e n b z hE
   obtain ⟨l, g1, g2, g3⟩ := hy
   rw [hE]
   refine ⟨l, g1, g2, ?_⟩
   split at g3
   ·rename_i hx
    obtain ⟨q1, q2, rfl, rfl⟩ := g3
    rw [hx]
    exact ⟨q1, q2, rfl, rfl⟩
   ·rename_i id ver off len hx
    obtain ⟨r, q1, q2, q3, q4, q5, q6, q7, q8, rfl, rfl⟩ := g3
    rw [hx]
    exact ⟨r, q1, q2, q3, q4, q5, q6, q7, q8, rfl, rfl⟩
   ·exact g3.elim
  ·exact hy.elim
 ·rintro g aA5 ts rfl hw
  exact absurd ⟨g, aA5, ts, rfl, hw⟩ pF
theorem TA {c0 i : Nat} {st : ST} {K : ST → Prop} {U : Nat → Prop} (PQ : ∀ o, ops[i]? = some o → cU E o.op = true → ¬ U (c0 + rk E ops.toList i)) (h : W5 E md ops c0 i K st) {a : Act} {w : World} (hR : nV w0 S0 m G U st.f st.rows a w) (hd : ∀ o, o ∈ ops → ∀ t, o.dst = some t → t < m)
  {K' : Act → World → Prop} {Q : Exit → Act → World → Prop} (hK : ∀ PZ a' w', K PZ → nV w0 S0 m G (fun v => (v = c0 + rk E ops.toList i ∧ ∃ o, ops[i]? = some o ∧ cU E o.op = true) ∨ U v) PZ.f PZ.rows a' w' → K' a' w') : wpOp E.P ops Q i K' a w := by
 unfold W5 at h
 unfold wpOp
 split at h
 ·rename_i hi; simp only [hi]; exact hK _ _ _ h (hR.mono fun v hv => .inr hv)
 ·rename_i o hi
  simp only [hi]
  obtain ⟨b, v, u, ⟨hg, hy⟩, ho, hk⟩ := h
  have kC := hR
  obtain ⟨⟨c, rfl, hr, fA, hI, hf, hG⟩, hn, eJ⟩ := hR
  have hdo := hd o (Array.mem_of_getElem? hi)
  have afq : Region.wanted o (yielded ops a.tmps) = b := by
   unfold gOK at hg
   unfold Region.wanted
   cases hgd : o.guard with
   | none => rw [hgd] at hg; simp only at hg ⊢; exact hg.symm
   | some x =>
    obtain ⟨j, want⟩ := x
    rw [hgd] at hg
    simp only at hg ⊢
    obtain ⟨d, h1, h2⟩ := hg
    have hx := hf d
    rcases h2 with ⟨h2, h3⟩ | ⟨h2 | h2, h3⟩
    ·rw [h2] at hx
     rw [gI h1 hx, h3]
     cases want <;> rfl
    ·rw [h2] at hx
     rw [gI h1 hx, h3]
     cases want <;> rfl
    ·rw [h2] at hx
     rw [r6 h1 hx, h3]
     rfl
  by_cases hb : b = true
  ·subst hb
   rw [if_pos rfl] at hy
   rw [afq, if_pos rfl]
   left
   cases nU : cU E o.op with
   | true =>
    refine W9 (PQ o hi nU) nU (PU (fun id _ r jQ => (jV.1 jQ).2) hy).1 kC hdo fun a' w' hR2 => hK _ _ _ hk ?_
    exact hR2.mono fun v hv => hv.imp (fun h => ⟨h, o, by first | exact hi | rfl, nU⟩) fun h => h
   | false =>
    rw [yU nU] at hy
    have BL : ys E o.op (aQ st.f) c.rows v u := by
     rw [hr]
     exact (afl (fun id _ r jQ => (jV.1 jQ).2) hy).1
    refine HJ hI hf BL fun v' c' h1 h2 h3 h4 h5 => hK _ _ _ hk ?_
    refine m9 hf hG hn eJ h3 h4 h5 hdo rfl ?_ ?_
    ·simp only [app]
     rw [h1, hr]
    ·rw [h2]
     exact fun v hv => .inr (fA v hv)
  ·rw [if_neg hb] at hy
   obtain ⟨rfl, rfl⟩ := hy
   rw [afq, if_neg hb]
   refine hK _ _ _ hk ?_
   have yF : b = false := by simpa using hb
   subst yF
   exact m9 hf hG hn eJ (rT.refl c) hI L8 hdo rfl (by rw [hr]; rfl) (fun v hv => .inr (fA v hv))
def Ul (E : Env) (ops : Array Oper) (c0 n : Nat) (aY : Array Bool) : Nat → Prop := fun v => v < c0 ∨ ∃ k o, k < n ∧ ops[k]? = some o ∧ cU E o.op = true ∧ v = c0 + rk E ops.toList k ∧ aY.getD k false = true
theorem MA {c0 n v : Nat} {aY : Array Bool} (h : Ul E ops c0 n aY v) : v < c0 + rk E ops.toList n := by
 rcases h with h | ⟨k, o, hk, ho, hn, rfl, _⟩
 ·omega
 ·have := W2 (ops := ops.toList) (by simpa using ho) hn hk
  omega
theorem j6 {c0 n g : Nat} {L : Array Bool → ST → Prop} {Q : Exit → Act → World → Prop} (hd : ∀ o, o ∈ ops → ∀ t, o.dst = some t → t < m)
  (hL : ∀ aY (st : ST) a w, L aY st → nV w0 S0 m G (Ul E ops c0 n aY) st.f st.rows a w → wpAny E.P md ops Q g aY a w) :
  ∀ (f : Nat) (aY : Array Bool) (st : ST) (a : Act) (w : World), n ≤ aY.size → HN E md ops c0 n L f aY st → nV w0 S0 m G (Ul E ops c0 n aY) st.f st.rows a w → wpAny E.P md ops Q (f + g) aY a w
 | 0, aY, st, a, w, _, h, hR => by rw [Nat.zero_add]; exact hL _ _ _ _ h hR
 | f + 1, aY, st, a, w, mR, h, hR => by
  rw [show f + 1 + g = (f + g) + 1 by omega]
  refine ⟨fun h0 => absurd h0 h.1, fun i hi => ?_⟩
  have LA := (mem_ready.1 hi).1
  obtain ⟨hin, hq⟩ := h.2 i hi
  refine TA (fun o ho hn hU => ?_) hq hR hd fun PZ a' w' h' kC => j6 hd hL f _ PZ a' w' (by simpa using mR) h' (kC.mono fun v hv => ?_)
  ·rcases hU with hU | ⟨k, o', hk, ho', wF, he, hl⟩
   ·omega
   ·have := ahz (ops := ops.toList) (by simpa using ho) hn (by simpa using ho') wF (by omega)
    subst this
    rw [getD_both LA] at hl; cases hl
  ·rcases hv with ⟨rfl, o, ho, hn⟩ | hv
   ·exact .inr ⟨i, o, hin, ho, hn, rfl, by simp [show i < aY.size by omega]⟩
   ·rcases hv with hv | ⟨k, o, hk, ho, hn, he, hl⟩
    ·exact .inl hv
    ·refine .inr ⟨k, o, hk, ho, hn, he, ?_⟩
     by_cases hki : i = k
     ·subst hki; simp [show i < aY.size by omega]
     ·simpa [Array.getElem?_setIfInBounds_ne hki] using hl
end
def aL (E : Env) (ops : List Oper) : List Oper → (PS → Prop) → PS → Prop
 | [], K, σ => K σ
 | o :: os, K, σ =>
  match o.guard with
  | none => dV E o (aL E ops os K) σ
  | some (j, want) =>
   match (ops[j]?).bind (·.dst) with
   | none => False
   | some d => (σ.f d = .bool want ∧ dV E o (aL E ops os K) σ) ∨ ((σ.f d = .bool (!want) ∨ σ.f d = .eP []) ∧ aL E ops os K (σ.put o.dst (.eP [])))
def aN (E : Env) (ops : List Oper) (clk : Nat) : Nat → List Oper → (PS → Prop) → ST → Prop
 | _, [], K, st => K ⟨st.f, st.rows, clk⟩
 | k, o :: os, K, st =>
  match o.guard with
  | none => ∃ v u, yn E clk o.dst o.op (aQ st.f) (dP .any ops k st.wl st.rows) v u ∧ S8 .any ops k u st.bL ∧ aN E ops (gQ E o.op clk) (k + 1) os K (app k o true v u st)
  | some (j, want) =>
   match (ops[j]?).bind (·.dst) with
   | none => False
   | some d => (st.f d = .bool want ∧ ∃ v u, yn E clk o.dst o.op (aQ st.f) (dP .any ops k st.wl st.rows) v u ∧ S8 .any ops k u st.bL ∧ aN E ops (gQ E o.op clk) (k + 1) os K (app k o true v u st)) ∨ ((st.f d = .bool (!want) ∨ st.f d = .eP []) ∧ aN E ops clk (k + 1) os K (app k o false (.eP []) none st))
def fP (E : Env) (tl : Nat) (ops : List Oper) (K : PS → Prop) (σ : PS) : Prop :=
 if tl = 0 then aN E ops σ.clock 0 ops K ⟨σ.f, σ.rows, fun _ _ => False, fun _ _ => False⟩
 else aN E ops σ.clock 0 (ops.take (ops.length - tl)) (aL E ops (ops.drop (ops.length - tl)) K) ⟨σ.f, σ.rows, fun _ _ => False, fun _ _ => False⟩
inductive PX where
 | normal
 | exit (id : Nat)
 | ret
def BO (K : PS → Prop) (Q : PX → PS → Prop) : PX → PS → Prop
 | .normal, σ => K σ
 | .exit id, σ => Q (.exit id) σ
 | .ret, σ => Q .ret σ
def BP (id : Nat) (Q : PX → PS → Prop) : PX → PS → Prop
 | .normal, σ => Q .normal σ
 | .exit j, σ => if j = id then Q .normal σ else Q (.exit j) σ
 | .ret, σ => Q .ret σ
def pH (E : Env) (n tl : Nat) (ops : Array Oper) (draw : Bool) : Bool :=
 (ops.all fun o => match o.dst with | some d => decide (d < n) | none => true) &&
 (!draw || (r5 E (if tl = 0 then ops.toList else ops.toList.take (ops.size - tl)) && (if tl = 0 then Region.noSelect ops && Region.lexHead .any ops 0 ops.size 0 (Array.replicate ops.size false) else decide (tl ≤ ops.size) && Region.lexTailB .any ops (ops.size - tl))))
def eB (E : Env) (n : Nat) (tl : Nat → Nat) : Code → Bool
 | .region id ops draw => pH E n (tl id) ops draw
 | .seq a b => eB E n tl a && eB E n tl b
 | .cond _ t e => eB E n tl t && eB E n tl e
 | .block _ c => eB E n tl c
 | .loop c => eB E n tl c
 | _ => true
section
variable {E : Env} {w0 : World} {S0 : dB} {n : Nat} {G : Gs}
theorem fW {ops : Array Oper} {K : PS → Prop} {Q : Exit → Act → World → Prop} (hK : ∀ σ' a' w', K σ' → Rel w0 S0 n G σ' a' w' → Q .normal a' w') :
  ∀ (l : List Oper) (σ : PS) (a : Act) (w : World), (∀ o ∈ l, ∀ t, o.dst = some t → t < n) → aL E ops.toList l K σ → Rel w0 S0 n G σ a w → wpList E.P ops Q l a w
 | [], σ, a, w, _, h, hR => hK _ _ _ h hR
 | o :: os, σ, a, w, hd, h, hR => by
  have hdo := hd o (by simp)
  have hds : ∀ o ∈ os, ∀ t, o.dst = some t → t < n := fun o ho => hd o (by simp [ho])
  have wanted : ∀ {σ}, dV E o (aL E ops.toList os K) σ → Rel w0 S0 n G σ a w → o.wp E.P a w (wpList E.P ops Q os) Q := fun hp hR =>
   wG hp hR hdo fun σ' a' w' hk kC => fW hK os σ' a' w' hds hk kC
  unfold wpList
  simp only [aL] at h
  split at h
  ·rename_i hg
   rw [if_pos (by simp [Region.wanted, hg])]
   exact .inl (wanted h hR)
  ·rename_i j want hg
   split at h
   ·exact h.elim
   ·rename_i d MB
    have hd3 : (ops[j]?).bind (·.dst) = some d := by simpa using MB
    have skip : yielded ops a.tmps j ≠ some want → aL E ops.toList os K (σ.put o.dst (.eP [])) → (if Region.wanted o (yielded ops a.tmps) = true then o.wp E.P a w (wpList E.P ops Q os) Q ∨ (o.asks E.P a w ∧ LetsOut Q) else wpList E.P ops Q os (a.put o.dst undef) w) := by
     intro hy h2
     rw [if_neg (by simpa [Region.wanted, hg] using hy)]
     refine fW hK os _ _ w hds h2 ?_
     obtain ⟨⟨c, rfl, hr, fA, hI, hf, hG⟩, hn, eJ⟩ := hR
     exact l5 hf hG hn eJ (rT.refl c) hI L8 hdo rfl (by simp [PS.put, hr]) fA
    obtain ⟨c, _, _, _, _, hf, _⟩ := hR.ex
    have hx := hf d
    rcases h with ⟨h1, h2⟩ | ⟨h1 | h1, h2⟩
    ·rw [h1] at hx
     rw [if_pos (by simp [Region.wanted, hg, gI hd3 hx])]
     exact .inl (wanted h2 hR)
    ·rw [h1] at hx
     exact skip (by rw [gI hd3 hx]; cases want <;> simp) h2
    ·rw [h1] at hx
     exact skip (by rw [r6 hd3 hx]; simp) h2
theorem nC {ops : Array Oper} {c0 : Nat} {K : PS → Prop} : ∀ (l : List Oper) (k clk : Nat) (st : ST), (∀ j, j < l.length → l[j]? = ops[k + j]?) → r5 E l = true → clk = c0 + rk E ops.toList k → aN E ops.toList clk k l K st → ahH E .any ops c0 (fun st => K ⟨st.f, st.rows, c0 + rk E ops.toList (k + l.length)⟩) k l st
 | [], k, clk, st, _, _, hc, h => by subst hc; exact h
 | o :: os, k, clk, st, hl, HP, hc, h => by
  have ahJ : r5 E os = true := by simp only [r5, List.all_cons, Bool.and_eq_true] at HP ⊢; exact HP.2
  have asA : o.guard ≠ none → cU E o.op = false := fun hg => by
   simp only [r5, List.all_cons, Bool.and_eq_true] at HP
   cases hn : cU E o.op with
   | false => rfl
   | true => have := HP.1; rw [hn] at this; simp at this; exact absurd this.2 hg
  have h0 : ops[k]? = some o := by simpa using (hl 0 (by simp)).symm
  have uN : gQ E o.op clk = c0 + rk E ops.toList (k + 1) := by rw [hc]; exact acF (by simpa using h0)
  have hl1 : ∀ j, j < os.length → os[j]? = ops[k + 1 + j]? := fun j hj => by have := hl (j + 1) (by simp; omega); simpa [Nat.add_assoc, Nat.add_comm 1 j] using this
  have e1 : k + (o :: os).length = k + 1 + os.length := by simp only [List.length_cons]; omega
  rw [e1]
  simp only [aN] at h
  split at h
  ·rename_i hg
   obtain ⟨v, u, h1, h2, h3⟩ := h
   exact ⟨true, v, u, ⟨by simp [gOK, hg], by rw [if_pos rfl, ← hc]; exact h1⟩, h2, nC os _ _ _ hl1 ahJ uN h3⟩
  ·rename_i j want hg
   split at h
   ·exact h.elim
   ·rename_i d MB
    have hd3 : (ops[j]?).bind (·.dst) = some d := by simpa using MB
    rcases h with ⟨h1, v, u, q1, q2, q3⟩ | ⟨h1, h2⟩
    ·exact ⟨true, v, u, ⟨by simp only [gOK, hg]; exact ⟨d, hd3, .inl ⟨h1, trivial⟩⟩, by rw [if_pos rfl, ← hc]; exact q1⟩, q2, nC os _ _ _ hl1 ahJ uN q3⟩
    ·exact ⟨false, .eP [], none, ⟨by simp only [gOK, hg]; exact ⟨d, hd3, .inr ⟨h1, trivial⟩⟩, by simp⟩, trivial, nC os _ _ _ hl1 ahJ (by rw [← uN, yW (asA (by rw [hg]; simp))]) h2⟩
theorem Rel.drew {σ : PS} {a : Act} {w : World} (h : Rel w0 S0 n G σ a w) : Rel w0 S0 n G σ a { w with drawn := w.drawn + 1 } := by
 obtain ⟨⟨c, rfl, hr, fA, hI, hf, hG⟩, hn, eJ⟩ := h
 obtain ⟨uP, hA⟩ := hI.grow (w' := { c.w with drawn := c.w.drawn + 1 }) (S' := c.S) ⟨rfl, rfl, rfl, Nat.le_refl _, fun _ _ => rfl⟩ (fun _ _ h => h) (fun _ _ h => .inl h)
 exact ⟨⟨{ c with w := { c.w with drawn := c.w.drawn + 1 } }, rfl, hr, fA, uP, fun s => aK.rU hA _ _ (hf s), fun p hp => aK.rU hA _ _ (hG p hp)⟩, hn, eJ⟩
theorem rN {id tl : Nat} {ops : Array Oper} {K : PS → Prop} {Q : Exit → Act → World → Prop} (fK : pH E n tl ops true = true) {σ : PS} {a : Act} {w : World} (h : fP E tl ops.toList K σ) (hR : Rel w0 S0 n G σ a w)
  (hK : ∀ σ' a' w', K σ' → Rel w0 S0 n G σ' a' w' → Q .normal a' w') : (Code.region id ops true).wp E.P Q a w := by
 simp only [pH, Bool.and_eq_true, Bool.not_true, Bool.false_or] at fK
 obtain ⟨ahK, rO, fK⟩ := fK
 have hd : ∀ o, o ∈ ops → ∀ t, o.dst = some t → t < n := by
  intro o ho t ht
  have := Array.all_eq_true_iff_forall_mem.1 ahK o ho
  simpa [ht] using this
 refine wp_region_any E.mixed ?_
 have HQ := hR.drew
 have hU0 : ∀ k (l : Array Bool), nV w0 S0 n G (Ul E ops σ.clock k l) σ.f σ.rows a { w with drawn := w.drawn + 1 } := fun k l => HQ.mono fun v hv => .inl hv
 have acL : ∀ (l : List Oper), r5 E l = true → ∀ (i : Nat) (oi : Oper), l[i]? = some oi → cU E oi.op = true → oi.dst.isSome = true := fun l h i oi hi hn => by
  have := List.all_eq_true.1 h oi (List.mem_of_getElem? hi)
  rw [hn] at this; simp at this; exact Option.isSome_iff_exists.2 (by obtain ⟨x, hx⟩ := Option.isSome_iff_exists.1 this.1; exact ⟨x, hx⟩)
 unfold fP at h
 by_cases htl : tl = 0
 ·rw [if_pos htl] at h fK rO
  have nU : ∀ i oi, i < ops.size → ops[i]? = some oi → cU E oi.op = true → oi.dst.isSome = true := fun i oi _ hi => acL _ rO i oi (by simpa using hi)
  simp only [Bool.and_eq_true] at fK
  have hl := nC (c0 := σ.clock) ops.toList 0 _ _ (by simp) rO (by simp [rk]) h
  have XA : HeadInv .any ops ops.size (Array.replicate ops.size false) :=
   ⟨by simp, fun j oj _ hl => (by rw [getD_replicate_false] at hl; cases hl), fun t h1 h2 => by omega⟩
  have yZ : ∀ aY, HeadInv .any ops ops.size aY → ∀ i, i < ops.size → aY.getD i true = false → ∀ t, ops.size ≤ t → t ∉ Region.ready .any ops aY := by
   intro aY _ i _ _ t ht hr
   obtain ⟨_, o, ho, _⟩ := mem_ready.1 hr
   have := (Array.getElem?_eq_some_iff.1 ho).1
   omega
  have H := qJ (E := E) (md := .any) (g := 0) nU yZ ops.toList 0 _ _ (by simp) (by simp) XA (by simpa using fK.2) hl
  have := j6 (E := E) (md := .any) (g := 0) (Q := Q) (m := n) hd (fun aY st a' w' hL kC => by
   obtain ⟨h1, h2⟩ := hL
   exact ⟨by simpa [Region.seqB] using h1, hK _ _ _ h2 (kC.mono fun v hv => by have := MA hv; simpa using this)⟩) _ _ _ _ _ (by simp) H (hU0 _ _)
  simpa using this
 ·rw [if_neg htl] at h fK rO
  have nU : ∀ i oi, i < ops.size - tl → ops[i]? = some oi → cU E oi.op = true → oi.dst.isSome = true := fun i oi h1 hi => acL _ rO i oi (by rw [List.getElem?_take, if_pos h1]; simpa using hi)
  simp only [Bool.and_eq_true, decide_eq_true_eq] at fK
  obtain ⟨hle, hB⟩ := fK
  simp only [Region.lexTailB, Bool.and_eq_true, decide_eq_true_eq] at hB
  obtain ⟨⟨⟨⟨asB, wF⟩, hs⟩, hc⟩, ahL⟩ := hB
  have hlen : ops.toList.length = ops.size := by simp
  rw [hlen] at h
  have hl := nC (c0 := σ.clock) (ops.toList.take (ops.size - tl)) 0 _ _ (fun j hj => by
   have XB : j < ops.size - tl := by simpa using hj
   simp [XB]) rO (by simp [rk]) h
  have XA : HeadInv .any ops (ops.size - tl) (Array.replicate ops.size false) :=
   ⟨by simp, fun j oj _ hl => (by rw [getD_replicate_false] at hl; cases hl), fun t _ ht => getD_in (by simpa using ht) (getD_replicate_false _ _)⟩
  have uR : (ops.toList.take (ops.size - tl)).length = ops.size - tl := by simp
  have XC : (ops.toList.drop (ops.size - tl)).length = ops.size - (ops.size - tl) := by simp
  have H := qJ (E := E) (md := .any) (n := ops.size - tl) (g := ops.size - (ops.size - tl)) nU (fun aY inv i hi LA t ht => tail_waits hs hc wF inv _ i rfl hi LA t ht) (ops.toList.take (ops.size - tl)) 0 _ _ (fun j hj => by
   rw [uR] at hj
   simp [hj]) (by rw [uR]; simp) XA (by rw [uR]; exact ahL) hl
  have := j6 (E := E) (md := .any) (g := ops.size - (ops.size - tl)) (Q := Q) (m := n) hd (fun aY st a' w' hL kC => by
   obtain ⟨h1, h2⟩ := hL
   have h3 := fW (ops := ops) (Q := Q) hK (ops.toList.drop (ops.size - tl)) _ a' w' (fun o ho => hd o (by simpa using List.mem_of_mem_drop ho)) h2 (kC.mono fun v hv => by have := MA hv; simpa using this)
   have h4 := wpAny_of_seq (md := .any) (Q' := Q) (ops.toList.drop (ops.size - tl)) (ops.size - tl) aY a' w' (fun j => by simp [List.getElem?_drop]) (by rw [XC]; exact h1) h3
   rwa [XC] at h4) _ _ _ _ _ (by simp) H (hU0 _ _)
  rw [uR, show ops.size - tl + (ops.size - (ops.size - tl)) = ops.size by omega] at this
  exact this
def ahM : PX → Exit
 | .normal => .normal
 | .exit id => .exit id
 | .ret => .ret
end
def oN (E : Env) (σ : PS) : List ResultVar → (List PV → Prop) → Prop
 | [], K => K []
 | .tmp t :: rs, K => oN E σ rs fun vs => K (σ.f t :: vs)
 | .cell a t :: rs, K => ∃ v, rG E t σ.rows (σ.f a) v ∧ oN E σ rs fun vs => K (v :: vs)
def HR : List PV → PV
 | [x] => x
 | l => .eP l
def XD (E : Env) (rs : List ResultVar) (r : PV) (σ : PS) : Prop :=
 oN E σ rs fun vs => dO σ.rows (vs.flatMap dC) ∧ (vs.map (pz σ.rows)).all eY = true ∧ r = HR (vs.map (pz σ.rows))
def acN (E : Env) (rs : List ResultVar) (r : PV) : PX → PS → Prop
 | .normal, σ => XD E rs r σ
 | .ret, σ => XD E rs r σ
 | .exit _, _ => False
def CR (args : List PV) : PS := ⟨fun s => args.getD s .undef, fun _ => none, 0⟩
section
variable {E : Env} {w0 : World} {S0 : dB} {c : Cx}
theorem qK (hI : Inv w0 S0 c) {clk : Nat} {a : Act} {f : Nat → PV} (hf : ∀ s, aK c (f s) (a.tmps.getD s undef)) {g : ResultVar → Sem Value} (XE : ∀ t, g (.tmp t) = pure (a.tmps.getD t undef))
  (m8 : ∀ x t, g (.cell x t) = do loadVar t (← asAddr (a.tmps.getD x undef))) : ∀ (rs : List ResultVar) (K : List PV → Prop), oN E ⟨f, c.rows, clk⟩ rs K →
  ∃ vs us, K vs ∧ a7 (aK c) vs us ∧ (rs.mapM g : Sem (List Value)).run E.P c.w = .ok us c.w
 | [], K, h => ⟨[], [], h, trivial, by simp⟩
 | .tmp t :: rs, K, h => by
  obtain ⟨vs, us, h1, h2, h3⟩ := qK hI hf XE m8 rs _ h
  exact ⟨f t :: vs, a.tmps.getD t undef :: us, h1, ⟨hf t, h2⟩, by
   rw [List.mapM_cons, XE, Sem.run_bind, Sem.run_pure, Result.andThen_ok, Sem.run_bind, h3, Result.andThen_ok, Sem.run_pure]⟩
 | .cell x t :: rs, K, h => by
  obtain ⟨v, hv, h⟩ := h
  obtain ⟨vs, us, h1, h2, h3⟩ := qK hI hf XE m8 rs _ h
  obtain ⟨u, hu, hr⟩ := CF hI (hf x) hv
  refine ⟨v :: vs, u :: us, h1, ⟨hr, h2⟩, ?_⟩
  have SW : (do loadVar t (← asAddr (a.tmps.getD x undef)) : Sem Value).run E.P c.w = .ok u c.w := by
   simp only [Instr.loadAt, Sem.run_bind] at hu ⊢
   cases hx : a.tmps.getD x undef with
   | pointer p =>
    cases p with
    | some ad => rw [hx] at hu; simpa [Instr.sureAddr, asAddr] using hu
    | none => rw [hx] at hu; simp [Instr.sureAddr, stuck, Result.andThen] at hu
   | _ => rw [hx] at hu; simp [Instr.sureAddr, stuck, Result.andThen] at hu
  rw [List.mapM_cons, m8]
  simp only [Sem.run_bind] at SW ⊢
  rw [SW, Result.andThen_ok, h3, Result.andThen_ok, Sem.run_pure]
theorem MC {CS : FuncId} {fn : Func} {code : Code} {args : List PV} {r : PV} (h1 : E.P.funcs[CS]? = some fn) (h2 : fn.body = some code) (h3 : (fn.name == "runtime.NumGoroutine") = false) (fO : args.length ≤ fn.ntmps)
  (h : ∀ (w0 : World) (S0 : dB) (a : Act) (w : World) (Q' : Exit → Act → World → Prop), Rel w0 S0 fn.ntmps Gs.none (CR args) a w → (∀ x σ' a' w', acN E fn.results.toList r x σ' → Rel w0 S0 fn.ntmps Gs.none σ' a' w' → Q' (ahM x) a' w') → code.wp E.P Q' a w) : aJ E.P CS args r := by
 refine ⟨⟨fn, code, h1, h2, h3⟩, fun w S vs hS fD => ?_⟩
 have yO := cE.1 fD
 refine calls_of_wp h1 h2 ?_
 have LO : vs.length = args.length := yO.length.symm
 let c0 : Cx := ⟨S, w, fun _ => .slice none 0 0, fun _ => none, fun _ => False⟩
 have hI0 : Inv w S c0 := ⟨Below.refl _ _, fun _ _ h => h, fun _ _ h => .inl h, hS, fun _ _ h => by simp [c0] at h, fun _ _ h => by simp [c0] at h, fun _ _ _ _ _ h => by simp [c0] at h⟩
 have HQ : Rel w S fn.ntmps Gs.none (CR args) { tmps := vs.toArray ++ Array.replicate (fn.ntmps - vs.toArray.size) undef, defers := [] } w := by
  refine ⟨⟨c0, rfl, rfl, fun _ h => h.elim, hI0, fun s => ?_, fun p hp => (Gs.HG hp).elim⟩, by simp; omega, rfl⟩
  simp only [CR]
  by_cases hs : s < args.length
  ·obtain ⟨u, hu, hr⟩ := yO.get (List.getElem?_eq_getElem hs)
   have e1 : args.getD s .undef = args[s] := by simp [List.getD, List.getElem?_eq_getElem hs]
   have e2 : (vs.toArray ++ Array.replicate (fn.ntmps - vs.toArray.size) undef).getD s undef = u := by
    have : s < vs.length := by omega
    simp [this] at hu ⊢
    simp [Array.getElem?_append, this, hu]
   rw [e1]
   show aK c0 args[s] ((vs.toArray ++ Array.replicate (fn.ntmps - vs.toArray.size) undef).getD s undef)
   rw [e2]
   exact aK.i4 hr
  ·have e1 : args.getD s .undef = .undef := by simp [List.getD, List.getElem?_eq_none (show args.length ≤ s by omega)]
   rw [e1]
   simp [aK, aP]
 refine h _ _ _ _ _ HQ ?_
 have fin : ∀ σ' a' w', XD E fn.results.toList r σ' → Rel w S fn.ntmps Gs.none σ' a' w' → a'.defers = [] ∧ ∃ v, (results fn a'.tmps).run E.P w' = .ok v w' ∧ (∃ v', Ending.returned v = .returned v' ∧ Below w.heap.size w w' ∧
   ∃ S' : dB, (∀ b o, S b o → S' b o) ∧ (∀ b o, S' b o → S b o ∨ (w.heap.size ≤ b ∧ b < w'.heap.size)) ∧ cK S' w' r v') := by
  rintro σ' a' w' hp ⟨⟨c, rfl, hr, fA, hI, hf, _⟩, hn, eJ⟩
  refine ⟨eJ, ?_⟩
  unfold XD at hp
  have uM : oN E ⟨σ'.f, c.rows, σ'.clock⟩ fn.results.toList fun vs => dO c.rows (vs.flatMap dC) ∧ (vs.map (pz c.rows)).all eY = true ∧ r = HR (vs.map (pz c.rows)) := by
   rw [hr]; exact hp
  have amR : ∃ vs us, (dO c.rows (vs.flatMap dC) ∧ (vs.map (pz c.rows)).all eY = true ∧ r = HR (vs.map (pz c.rows))) ∧ a7 (aK c) vs us ∧
    (results fn a'.tmps).run E.P c.w = .ok (if h : us.toArray.size = 1 then us.toArray[0] else .tuple us.toArray) c.w := by
   have key : ∀ g : ResultVar → Sem Value, (∀ t, g (.tmp t) = pure (a'.tmps.getD t undef)) → (∀ x t, g (.cell x t) = do loadVar t (← asAddr (a'.tmps.getD x undef))) →
     ∃ vs us, (dO c.rows (vs.flatMap dC) ∧ (vs.map (pz c.rows)).all eY = true ∧ r = HR (vs.map (pz c.rows))) ∧ a7 (aK c) vs us ∧
      (do let vs ← fn.results.mapM g; pure (if h : vs.size = 1 then vs[0] else .tuple vs) : Sem Value).run E.P c.w = .ok (if h : us.toArray.size = 1 then us.toArray[0] else .tuple us.toArray) c.w := by
    intro g XE m8
    obtain ⟨vs, us, g1, g4, g5⟩ := qK hI hf XE m8 _ _ uM
    refine ⟨vs, us, g1, g4, ?_⟩
    have : (fn.results.mapM g).run E.P c.w = .ok us.toArray c.w := by
     rw [Array.mapM_eq_mapM_toList]
     simp [g5]
    rw [Sem.run_bind, this, Result.andThen_ok, Sem.run_pure]
   unfold results
   exact key _ (fun _ => rfl) (fun _ _ => rfl)
  obtain ⟨vs, us, ⟨g1, g2, g3⟩, g4, i5⟩ := amR
  have HI := hI.freeze (vs.flatMap dC)
  have r7 : a7 (cK (LY c (vs.flatMap dC)) c.w) (vs.map (pz c.rows)) us := by
   refine a7.cW (by simp [g4.length]) fun k p u hp hu => ?_
   simp at hp
   obtain ⟨q, hq, rfl⟩ := hp
   obtain ⟨u', q1, q2⟩ := g4.get hq
   rw [hu] at q1; cases q1
   exact EH hI g1 q2 (fun id gL => by simp only [List.mem_flatMap]; exact ⟨q, List.mem_of_getElem? hq, gL⟩) (List.all_eq_true.1 g2 _ (by simp; exact ⟨q, List.mem_of_getElem? hq, rfl⟩))
  refine ⟨_, i5, _, rfl, hI.below, LY c (vs.flatMap dC), fun b o h => HI.ext b o h, fun b o h => HI.new b o h, ?_⟩
  rw [g3]
  have hl := r7.length
  cases hm : vs.map (pz c.rows) with
  | nil =>
   rw [hm] at r7 hl
   have : us = [] := List.eq_nil_of_length_eq_zero (by simpa using hl.symm)
   subst this
   simp only [HR, cK]
   exact ⟨[], by simp, by simp [bI]⟩
  | cons p ps =>
   rw [hm] at r7 hl
   match us, r7 with
   | u :: us, r7 =>
    cases ps with
    | nil =>
     match us, r7 with
     | [], r7 => simpa [HR] using r7.1
    | cons q qs =>
     have h2 : ¬ (u :: us).toArray.size = 1 := by simp at hl ⊢; intro h; subst h; simp at hl
     rw [dif_neg h2]
     simp only [HR, cK]
     exact ⟨_, rfl, cE.2 r7⟩
 intro x σ' a' w' hx kC
 cases x with
 | normal => exact fin σ' a' w' hx kC
 | ret => exact fin σ' a' w' hx kC
 | exit id => exact hx.elim
end
section
variable {P : Program} {t : TypeId}
theorem aG {n : Nat} {v : Value} {z : List PV} (h : (P.info? t).bind (fun i => i.zero.map fun v => (i.size, v)) = some (n, v)) (hz : v.cells.toList.map iC = z) (h1 : v.cells.all (·.oneCell') = true) (hl : z.length = n) (hp : 0 < n) : kL P t n z := by
 refine ⟨?_, hl, hp⟩
 cases hi : P.info? t with
 | none => simp [hi] at h
 | some i =>
  cases rA : i.zero with
  | none => simp [hi, rA] at h
  | some v0 =>
   simp [hi, rA] at h
   obtain ⟨rfl, rfl⟩ := h
   exact ⟨i, v0, rfl, rA, rfl, hz, h1⟩
theorem cI {b : Nat} (h : (P.info? t).map (·.bytes) = some b) : ∃ i, P.info? t = some i ∧ i.bytes = b := by
 cases hi : P.info? t with
 | none => simp [hi] at h
 | some i => exact ⟨i, rfl, by simpa [hi] using h⟩
theorem TB {n : Nat} (h : (P.info? t).map (·.size) = some n) : ∃ i, P.info? t = some i ∧ i.size = n := by
 cases hi : P.info? t with
 | none => simp [hi] at h
 | some i => exact ⟨i, rfl, by simpa [hi] using h⟩
theorem XF (h : (P.underlying t).isSome = true) : ∃ d, P.underlying t = some d := Option.isSome_iff_exists.1 h
def MD (P : Program) (f : Field) (x : Nat × Nat × Bool) : Bool :=
 f.offset == x.1 && (P.info? f.type).map (·.size) == some x.2.1 && decide (0 < x.2.1) && uY P f.type == x.2.2 && (P.underlying f.type).isSome
def qL (P : Program) : List Field → List (Nat × Nat × Bool) → Bool
 | [], [] => true
 | f :: fs, x :: xs => MD P f x && qL P fs xs
 | _, _ => false
theorem TC {f : Field} {x : Nat × Nat × Bool} (h : MD P f x = true) : lY P f x := by
 simp only [MD, Bool.and_eq_true, beq_iff_eq, decide_eq_true_eq] at h
 obtain ⟨⟨⟨⟨h1, h2⟩, h3⟩, h4⟩, h5⟩ := h
 exact ⟨h1, TB h2, h3, h4, XF h5⟩
theorem y3 : ∀ {fs : List Field} {xs : List (Nat × Nat × Bool)}, qL P fs xs = true → a7 (lY P) fs xs
 | [], [], _ => trivial
 | f :: fs, x :: xs, h => by
  simp only [qL, Bool.and_eq_true] at h
  exact ⟨TC h.1, y3 h.2⟩
 | [], _ :: _, h => by simp [qL] at h
 | _ :: _, [], h => by simp [qL] at h
def P4 (P : Program) (t : TypeId) (xs : List (Nat × Nat × Bool)) : Bool :=
 match P.underlying t with
 | some (.struct fields) => qL P fields.toList xs
 | _ => false
theorem bA {xs : List (Nat × Nat × Bool)} (h : P4 P t xs = true) : ∃ fields : Array Field, P.underlying t = some (.struct fields) ∧ a7 (lY P) fields.toList xs := by
 unfold P4 at h
 split at h
 ·rename_i fields hu; exact ⟨fields, hu, y3 h⟩
 ·cases h
end
def W (E : Env) (n : Nat) (tl : Nat → Nat) (c : Code) (Q : PX → PS → Prop) (σ : PS) : Prop :=
 eB E n tl c = true → ∀ (w0 : World) (S0 : dB) (G : Gs) (a : Act) (w : World) (Q' : Exit → Act → World → Prop), Rel w0 S0 n G σ a w →
  (∀ x σ' a' w', Q x σ' → Rel w0 S0 n G σ' a' w' → Q' (ahM x) a' w') → c.wp E.P Q' a w
def Gh (n : Nat) (σ σ' : PS) : Prop := ∀ (w0 : World) (S0 : dB) (G : Gs) (a : Act) (w : World), Rel w0 S0 n G σ a w → Rel w0 S0 n G σ' a w
section
variable {E : Env} {n : Nat} {tl : Nat → Nat} {Q : PX → PS → Prop} {σ : PS}
theorem W.ghost {c : Code} {σ' : PS} (h : Gh n σ σ') (hw : W E n tl c Q σ') : W E n tl c Q σ := fun fK w0 S0 G a w Q' hR hQ => hw fK w0 S0 G a w Q' (h _ _ _ _ _ hR) hQ
theorem W.mono {c : Code} {Q2 : PX → PS → Prop} (hw : W E n tl c Q2 σ) (h : ∀ x σ, Q2 x σ → Q x σ) : W E n tl c Q σ := fun fK w0 S0 G a w Q' hR hQ => hw fK w0 S0 G a w Q' hR fun x σ' a' w' hx => hQ x σ' a' w' (h x σ' hx)
theorem W.skip (h : Q .normal σ) : W E n tl .skip Q σ := fun _ _ _ _ a w _ hR hQ => wp_skip (hQ .normal σ a w h hR)
theorem W.ret (h : Q .ret σ) : W E n tl .ret Q σ := fun _ _ _ _ a w _ hR hQ => wp_ret (hQ .ret σ a w h hR)
theorem W.exit {id : Nat} (h : Q (.exit id) σ) : W E n tl (.exit id) Q σ := fun _ _ _ _ a w _ hR hQ => wp_exit (hQ (.exit id) σ a w h hR)
theorem W.HS {id : Nat} {ops : List Oper} (h : ∀ K : PS → Prop, (∀ σ, Q .normal σ → K σ) → aL E ops ops K σ) : W E n tl (.region id ops.toArray false) Q σ := by
 intro fK w0 S0 G a w Q' hR hQ
 simp only [eB, pH, Bool.and_eq_true] at fK
 refine wp_region_list (fW (fun σ' a' w' hk kC => hQ .normal σ' a' w' hk kC) _ σ a w (fun o ho t ht => ?_) (h _ fun _ h => h) hR)
 have := Array.all_eq_true_iff_forall_mem.1 fK.1 o (by simpa using ho)
 simpa [ht] using this
theorem W.XG {id : Nat} {ops : List Oper} (h : ∀ K : PS → Prop, (∀ σ, Q .normal σ → K σ) → fP E (tl id) ops K σ) : W E n tl (.region id ops.toArray true) Q σ := by
 intro fK w0 S0 G a w Q' hR hQ
 exact rN (by simpa [eB] using fK) (h _ fun _ h => h) hR fun σ' a' w' hk kC => hQ .normal σ' a' w' hk kC
theorem W.seq {x y : Code} (h : W E n tl x (BO (W E n tl y Q) Q) σ) : W E n tl (.seq x y) Q σ := by
 intro fK w0 S0 G a w Q' hR hQ
 simp only [eB, Bool.and_eq_true] at fK
 refine wp_seq (h fK.1 w0 S0 G a w _ hR fun x σ' a' w' hx kC => ?_)
 cases x with
 | normal => exact hx fK.2 w0 S0 G a' w' _ kC hQ
 | exit id => exact hQ (.exit id) σ' a' w' hx kC
 | ret => exact hQ .ret σ' a' w' hx kC
theorem W.ME {id : Nat} {ops : List Oper} {y : Code} (h : ∀ K : PS → Prop, (∀ σ, W E n tl y Q σ → K σ) → aL E ops ops K σ) : W E n tl (.seq (.region id ops.toArray false) y) Q σ :=
 W.seq (W.HS h)
theorem W.XH {id : Nat} {ops : List Oper} {y : Code} (h : ∀ K : PS → Prop, (∀ σ, W E n tl y Q σ → K σ) → fP E (tl id) ops K σ) : W E n tl (.seq (.region id ops.toArray true) y) Q σ :=
 W.seq (W.XG h)
theorem W.cond {c : Operand} {t e : Code} (h : ∃ b, aQ σ.f c = .bool b ∧ (b = true → W E n tl t Q σ) ∧ (b = false → W E n tl e Q σ)) : W E n tl (.cond c t e) Q σ := by
 intro fK w0 S0 G a w Q' hR hQ
 simp only [eB, Bool.and_eq_true] at fK
 obtain ⟨b, hb, h1, h2⟩ := h
 obtain ⟨cx, _, _, _, _, hf, _⟩ := hR.ex
 have := kS hf c
 rw [hb, cX] at this
 refine wp_cond this ?_
 cases b with
 | true => exact h1 rfl fK.1 w0 S0 G a w Q' hR hQ
 | false => exact h2 rfl fK.2 w0 S0 G a w Q' hR hQ
theorem W.block {id : Nat} {c : Code} (h : W E n tl c (BP id Q) σ) : W E n tl (.block id c) Q σ := by
 intro fK w0 S0 G a w Q' hR hQ
 refine wp_block (h fK w0 S0 G a w _ hR fun x σ' a' w' hx kC => ?_)
 cases x with
 | normal => exact hQ .normal σ' a' w' hx kC
 | exit j =>
  simp only [BP] at hx
  simp only [ahM, Exit.inBlock]
  split at hx
  ·rename_i hj; rw [if_pos hj]; exact hQ .normal σ' a' w' hx kC
  ·rename_i hj; rw [if_neg hj]; exact hQ (.exit j) σ' a' w' hx kC
 | ret => exact hQ .ret σ' a' w' hx kC
theorem W.loop {c : Code} (I : Nat → PS → Prop) (k : Nat) (h0 : I k σ) (h1 : ∀ k σ, I k σ → W E n tl c (BO (fun σ' => ∃ m, m < k ∧ I m σ') Q) σ) : W E n tl (.loop c) Q σ := by
 intro fK w0 S0 G a w Q' hR hQ
 refine wp_loop_ghost (fun k a w => ∃ σ, I k σ ∧ Rel w0 S0 n G σ a w) k ⟨σ, h0, hR⟩ ?_
 rintro k a w ⟨σ, hI, hR⟩
 refine h1 k σ hI fK w0 S0 G a w _ hR fun x σ' a' w' hx kC => ?_
 cases x with
 | normal => obtain ⟨m, hm, uP⟩ := hx; exact ⟨m, hm, σ', uP, kC⟩
 | exit id => exact hQ (.exit id) σ' a' w' hx kC
 | ret => exact hQ .ret σ' a' w' hx kC
end
theorem XI {E : Env} {CS : FuncId} {fn : Func} {code : Code} (tl : Nat → Nat) {args : List PV} {r : PV} (h1 : E.P.funcs[CS]? = some fn) (h2 : fn.body = some code) (h3 : (fn.name == "runtime.NumGoroutine") = false)
  (fK : eB E fn.ntmps tl code = true) (fO : args.length ≤ fn.ntmps) (h : W E fn.ntmps tl code (acN E fn.results.toList r) (CR args)) : aJ E.P CS args r :=
 MC h1 h2 h3 fO fun w0 S0 a w Q' hR hQ => h fK w0 S0 Gs.none a w Q' hR hQ
def go (P : Prop) : Prop := P
def aU (R : PV → Prop) (K : PV → Prop) : Prop := ∃ v, R v ∧ K v
def gM (p : PV) (want : Bool) (A B : Prop) : Prop := ∃ t, p = .bool t ∧ (t = want → A) ∧ (t = (!want) → B)
def stepG (p : PV) (want : Bool) (A B : Prop) : Prop := (p = .bool want ∧ A) ∨ ((p = .bool (!want) ∨ p = .eP []) ∧ B)
def aH (A B : Prop) : Prop := A ∧ B
@[congr] theorem afr {R R' K : PV → Prop} (h : ∀ v, R v = R' v) : aU R K = aU R' K := by rw [show R = R' from funext h]
@[congr] theorem afs {p p' : PV} {want : Bool} {A B : Prop} (h : p = p') : gM p want A B = gM p' want A B := by rw [h]
@[congr] theorem afu {p p' : PV} {want : Bool} {A B : Prop} (h : p = p') : stepG p want A B = stepG p' want A B := by rw [h]
@[congr] theorem afv {A A' B : Prop} (h : A = A') : aH A B = aH A' B := by rw [h]
@[congr] theorem ahN {E : Env} {ops l : List Oper} {K : PS → Prop} {σ σ' : PS} (h : σ = σ') : aL E ops l K σ = aL E ops l K σ' := by rw [h]
@[congr] theorem ahO {E : Env} {ops l : List Oper} {clk k k' : Nat} {K : PS → Prop} {σ σ' : ST} (hk : k = k') (h : σ = σ') : aN E ops clk k l K σ = aN E ops clk k' l K σ' := by rw [hk, h]
@[congr] theorem ahP {md : Region.Mode} {ops : List Oper} {j j' k k' : Nat} (hj : j = j') (hk : k = k') : nW md ops j k = nW md ops j' k' := by rw [hj, hk]
@[congr] theorem akF {md : Region.Mode} {ops : List Oper} {i i' id iY : Nat} {t t' : Nat → Nat → Prop} (hi : i = i') (gL : id = iY) (ht : t = t') : yV md ops i id t = yV md ops i' iY t' := by rw [hi, gL, ht]
@[congr] theorem ahQ {md : Region.Mode} {ops : List Oper} {i i' : Nat} {t t' : Nat → Nat → Prop} {rows rows' : Rows} (hi : i = i') (ht : t = t') (hr : rows = rows') : dP md ops i t rows = dP md ops i' t' rows' := by rw [hi, ht, hr]
@[congr] theorem ab3 {E : Env} {tl : Nat} {l : List Oper} {K : PS → Prop} {σ σ' : PS} (h : σ = σ') : fP E tl l K σ = fP E tl l K σ' := by rw [h]
@[congr] theorem aqo {E : Env} {n : Nat} {tl : Nat → Nat} {c : Code} {Q : PX → PS → Prop} {σ σ' : PS} (h : σ = σ') : W E n tl c Q σ = W E n tl c Q σ' := by rw [h]
theorem i7 {t : PV} {K : PV → Prop} : aU (fun v => v = t) K = K t := by simp [aU]
theorem TD {t : PV} {K : PV → Prop} : aU (fun v => t = v) K = K t := by simp [aU]
theorem iN {c : Prop} {R K : PV → Prop} : aU (fun v => c ∧ R v) K = aH c (aU R K) := by
 apply propext; simp only [aU, aH]
 constructor
 ·rintro ⟨v, ⟨h1, h2⟩, h3⟩; exact ⟨h1, v, h2, h3⟩
 ·rintro ⟨h1, v, h2, h3⟩; exact ⟨v, ⟨h1, h2⟩, h3⟩
theorem XJ {α : Type} {R : α → PV → Prop} {K : PV → Prop} : aU (fun v => ∃ x, R x v) K = ∃ x, aU (R x) K := by
 apply propext; simp only [aU]
 constructor
 ·rintro ⟨v, ⟨x, h2⟩, h3⟩; exact ⟨x, v, h2, h3⟩
 ·rintro ⟨x, v, h2, h3⟩; exact ⟨v, ⟨x, h2⟩, h3⟩
theorem MF {B : Prop} : aH True B = B := by simp [aH]
theorem XK {A B : Prop} : gM (.bool true) true A B = A := by simp [gM]
theorem XL {A B : Prop} : gM (.bool true) false A B = B := by simp [gM]
theorem XM {A B : Prop} : gM (.bool false) true A B = B := by simp [gM]
theorem XN {A B : Prop} : stepG (.bool true) true A B = A := by simp [stepG]
theorem XO {A B : Prop} : stepG (.bool true) false A B = B := by simp [stepG]
theorem XP {A B : Prop} : stepG (.bool false) true A B = B := by simp [stepG]
theorem XQ {A B : Prop} : stepG (.bool false) false A B = A := by simp [stepG]
theorem XR {w : Bool} {A B : Prop} : stepG (.eP []) w A B = B := by simp [stepG]
theorem XS {A B : Prop} : gM (.bool false) false A B = A := by simp [gM]
theorem y4 {f : Nat → PV} {d j : Nat} {v : PV} : put f (some d) v j = if j = d then v else f j := rfl
theorem XT {f : Nat → PV} {v : PV} : put f none v = f := rfl
theorem ahR {α : Type} {f : Nat → α} {i j : Nat} {x : α} : dF f i x j = if j = i then x else f j := rfl
def fa : List (Nat × PV) → Nat → PV
 | [], _ => .undef
 | (i, v) :: l, j => if j = i then v else fa l j
theorem MG {j : Nat} : fa [] j = .undef := rfl
theorem ES {i j : Nat} {v : PV} {l : List (Nat × PV)} : fa ((i, v) :: l) j = if j = i then v else fa l j := rfl
section
variable {E : Env} {ops os : List Oper} {K : PS → Prop} {f : Nat → PV} {rows : Rows} {clk : Nat} {d : Option Tmp} {ty : TypeId} {pos : String} {af : Array Edge}
theorem aC (n : Nat) (l : List Nat) : Gh n ⟨f, rows, clk⟩ ⟨fa (l.map fun i => (i, f i)), rows, clk⟩ := by
 rintro w0 S0 G a w ⟨⟨c, h1, h2, h3, h4, h5, h6⟩, h7, h8⟩
 refine ⟨⟨c, h1, h2, h3, h4, fun s => ?_, h6⟩, h7, h8⟩
 have : fa (l.map fun i => (i, f i)) s = f s ∨ fa (l.map fun i => (i, f i)) s = .undef := by
  induction l with
  | nil => exact .inr rfl
  | cons i l ih =>
   simp only [List.map_cons, fa]
   split
   ·rename_i h; rw [h]; exact .inl rfl
   ·exact ih
 rcases this with h | h
 ·simp only; rw [h]; exact h5 s
 ·simp only; rw [h]; simp [aK, aP]
theorem W.live {n : Nat} {tl : Nat → Nat} {c : Code} {Q : PX → PS → Prop} (l : List Nat) (h : W E n tl c Q ⟨fa (l.map fun i => (i, f i)), rows, clk⟩) : W E n tl c Q ⟨f, rows, clk⟩ := W.ghost (aC n l) h
theorem MH {op : Op} {j : Nat} {want : Bool} : aL E ops (⟨d, op, ty, pos, af, some (j, want)⟩ :: os) K ⟨f, rows, clk⟩ =
  match (ops[j]?).bind (·.dst) with
  | none => False
  | some e => stepG (f e) want (aL E ops (⟨d, op, ty, pos, af, none⟩ :: os) K ⟨f, rows, clk⟩) (aL E ops os K ⟨put f d (.eP []), rows, clk⟩) := by
 simp only [aL]
 cases hx : (ops[j]?).bind (·.dst) with
 | none => rfl
 | some e => rfl
theorem bY {R : PV → Prop} {k : PV → Prop} (h : ∀ v, R v ↔ k v) : (∃ v u, (R v ∧ u = none) ∧ K ⟨put f d v, fE rows u, clk⟩) = aU k fun v => K ⟨put f d v, rows, clk⟩ := by
 apply propext; simp only [aU]
 constructor
 ·rintro ⟨v, u, ⟨h1, rfl⟩, h2⟩; exact ⟨v, (h v).1 h1, h2⟩
 ·rintro ⟨v, h1, h2⟩; exact ⟨v, none, ⟨(h v).2 h1, rfl⟩, h2⟩
theorem TE {x : Operand} : aL E ops (⟨d, .move x, ty, pos, af, none⟩ :: os) K ⟨f, rows, clk⟩ = aL E ops os K ⟨put f d (aQ f x), rows, clk⟩ := by
 simp only [aL, dV, ys, yv]
 rw [bY (k := fun v => v = aQ f x) (fun v => Iff.rfl), i7]
theorem HT {x : Operand} : aL E ops (⟨d, .assign x, ty, pos, af, none⟩ :: os) K ⟨f, rows, clk⟩ = aL E ops os K ⟨put f d (aQ f x), rows, clk⟩ := by
 simp only [aL, dV, ys, yv]
 rw [bY (k := fun v => v = aQ f x) (fun v => Iff.rfl), i7]
theorem TF {c a b : Operand} : aL E ops (⟨d, .pick c a b, ty, pos, af, none⟩ :: os) K ⟨f, rows, clk⟩ = gM (aQ f c) true (aL E ops os K ⟨put f d (aQ f a), rows, clk⟩) (aL E ops os K ⟨put f d (aQ f b), rows, clk⟩) := by
 simp only [aL, dV, ys, yv]
 rw [bY (fun v => Iff.rfl)]
 apply propext; simp only [aU, gM]
 constructor
 ·rintro ⟨v, ⟨t, h1, rfl⟩, h2⟩
  refine ⟨t, h1, fun h => ?_, fun h => ?_⟩
  ·subst h; exact h2
  ·subst h; exact h2
 ·rintro ⟨t, h1, h2, h3⟩
  cases t with
  | true => exact ⟨_, ⟨true, h1, rfl⟩, h2 rfl⟩
  | false => exact ⟨_, ⟨false, h1, rfl⟩, h3 rfl⟩
theorem XU {op : BinOp} {t t2 : TypeId} {x y : Operand} : aL E ops (⟨d, .binOp op t x y t2, ty, pos, af, none⟩ :: os) K ⟨f, rows, clk⟩ = aU (fun v => EA E op t (aQ f x) (aQ f y) v) fun v => aL E ops os K ⟨put f d v, rows, clk⟩ := by
 simp only [aL, dV, ys, yv]
 rw [bY (fun v => Iff.rfl)]
theorem acO {op : UnOp} {t : TypeId} {x : Operand} : aL E ops (⟨d, .unOp op t x, ty, pos, af, none⟩ :: os) K ⟨f, rows, clk⟩ = aU (fun v => yun op (aQ f x) v) fun v => aL E ops os K ⟨put f d v, rows, clk⟩ := by
 simp only [aL, dV, ys, yv]
 rw [bY (k := fun v => yun op (aQ f x) v) (fun v => Iff.rfl)]
theorem TG {s t : TypeId} {x : Operand} : aL E ops (⟨d, .convert s t x, ty, pos, af, none⟩ :: os) K ⟨f, rows, clk⟩ = aU (fun v => rI (E.ty s) (E.ty t) (aQ f x) v) fun v => aL E ops os K ⟨put f d v, rows, clk⟩ := by
 simp only [aL, dV, ys, yv]
 rw [bY (k := fun v => rI (E.ty s) (E.ty t) (aQ f x) v) (fun v => Iff.rfl)]
theorem ET {i : Nat} {x : Operand} : aL E ops (⟨d, .extract x i, ty, pos, af, none⟩ :: os) K ⟨f, rows, clk⟩ = aU (fun v => LI i (aQ f x) v) fun v => aL E ops os K ⟨put f d v, rows, clk⟩ := by
 simp only [aL, dV, ys, yv]
 rw [bY (k := fun v => LI i (aQ f x) v) (fun v => Iff.rfl)]
theorem TH {t : TypeId} {x : Operand} : aL E ops (⟨d, .load t x, ty, pos, af, none⟩ :: os) K ⟨f, rows, clk⟩ = aU (fun v => rG E t rows (aQ f x) v) fun v => aL E ops os K ⟨put f d v, rows, clk⟩ := by
 simp only [aL, dV, ys, yv]
 rw [bY (fun v => Iff.rfl)]
theorem MI {t : TypeId} {i : Nat} {x : Operand} : aL E ops (⟨d, .field t x i, ty, pos, af, none⟩ :: os) K ⟨f, rows, clk⟩ = aU (fun v => rV E t i (aQ f x) v) fun v => aL E ops os K ⟨put f d v, rows, clk⟩ := by
 simp only [aL, dV, ys, yv]
 rw [bY (fun v => Iff.rfl)]
theorem y5 {t : TypeId} {i : Nat} {x : Operand} : aL E ops (⟨d, .fieldAddr t x i, ty, pos, af, none⟩ :: os) K ⟨f, rows, clk⟩ = aU (fun v => eG E t rows i (aQ f x) v) fun v => aL E ops os K ⟨put f d v, rows, clk⟩ := by
 simp only [aL, dV, ys, yv]
 rw [bY (fun v => Iff.rfl)]
theorem y6 {t : TypeId} {x y : Operand} : aL E ops (⟨d, .indexAddr t x y, ty, pos, af, none⟩ :: os) K ⟨f, rows, clk⟩ = aU (fun v => eH E t rows (aQ f x) (aQ f y) v) fun v => aL E ops os K ⟨put f d v, rows, clk⟩ := by
 simp only [aL, dV, ys, yv]
 rw [bY (fun v => Iff.rfl)]
theorem MJ {t : TypeId} {x : Operand} {lo hi mx : Option Operand} : aL E ops (⟨d, .slice t x lo hi mx, ty, pos, af, none⟩ :: os) K ⟨f, rows, clk⟩ = aU (fun v => mQ E t rows (aQ f x) (lo.map (aQ f)) (hi.map (aQ f)) (mx.map (aQ f)) v) fun v => aL E ops os K ⟨put f d v, rows, clk⟩ := by
 simp only [aL, dV, ys, yv]
 rw [bY (fun v => Iff.rfl)]
theorem ML {t : TypeId} {parts : Array (Nat × Operand)} : aL E ops (⟨d, .build t parts, ty, pos, af, none⟩ :: os) K ⟨f, rows, clk⟩ = aU (fun v => o9 (E.ty t) (parts.toList.map fun x => (x.1, aQ f x.2)) v) fun v => aL E ops os K ⟨put f d v, rows, clk⟩ := by
 simp only [aL, dV, ys, yv]
 rw [bY (k := fun v => o9 (E.ty t) (parts.toList.map fun x => (x.1, aQ f x.2)) v) (fun v => Iff.rfl)]
theorem MM {t : TypeId} {x y : Operand} : aL E ops (⟨d, .index t x y, ty, pos, af, none⟩ :: os) K ⟨f, rows, clk⟩ = aU (fun v => rW (E.ty t) (aQ f x) (aQ f y) v) fun v => aL E ops os K ⟨put f d v, rows, clk⟩ := by
 simp only [aL, dV, ys, yv]
 rw [bY (k := fun v => rW (E.ty t) (aQ f x) (aQ f y) v) (fun v => Iff.rfl)]
theorem XV {t : TypeId} {x : Operand} : aL E ops (⟨d, .call { callee := .builtin .len, args := ⟨[x]⟩, argTypes := ⟨[t]⟩ }, ty, pos, af, none⟩ :: os) K ⟨f, rows, clk⟩ = aU (fun v => vT (E.ty t) rows (aQ f x) v) fun v => aL E ops os K ⟨put f d v, rows, clk⟩ := by
 simp only [aL, dV, ys, yv]
 rw [bY (k := fun v => vT (E.ty t) rows (aQ f x) v) (fun v => Iff.rfl)]
theorem BQ {x : Operand} : aL E ops (⟨d, .nilCheck x, ty, pos, af, none⟩ :: os) K ⟨f, rows, clk⟩ = aU (fun v => BJ rows (aQ f x) v) fun v => aL E ops os K ⟨put f d v, rows, clk⟩ := by
 simp only [aL, dV, ys, yv]
 rw [bY (k := fun v => BJ rows (aQ f x) v) (fun v => Iff.rfl)]
theorem XW {ts : Array TypeId} {x y : Operand} : aL E ops (⟨d, .call { callee := .builtin .max, args := ⟨[x, y]⟩, argTypes := ts }, ty, pos, af, none⟩ :: os) K ⟨f, rows, clk⟩ = aU (fun v => LK (aQ f x) (aQ f y) v) fun v => aL E ops os K ⟨put f d v, rows, clk⟩ := by
 simp only [aL, dV, ys, yv]
 rw [bY (fun v => Iff.rfl)]
theorem XX {ts : Array TypeId} {x y : Operand} : aL E ops (⟨d, .call { callee := .builtin .min, args := ⟨[x, y]⟩, argTypes := ts }, ty, pos, af, none⟩ :: os) K ⟨f, rows, clk⟩ = aU (fun v => LM (aQ f x) (aQ f y) v) fun v => aL E ops os K ⟨put f d v, rows, clk⟩ := by
 simp only [aL, dV, ys, yv]
 rw [bY (fun v => Iff.rfl)]
theorem xF {t : TypeId} {len : Nat} {parts : Array (Nat × Operand)} : aL E ops (⟨d, .buildSlice t len parts, ty, pos, af, none⟩ :: os) K ⟨f, rows, clk⟩ = aU (fun v => LZ (E.ty t) rows len (parts.toList.map fun x => (x.1, aQ f x.2)) v) fun v => aL E ops os K ⟨put f d v, rows, clk⟩ := by
 simp only [aL, dV, ys]
 rw [bY (fun v => Iff.rfl)]
theorem MN {t : TypeId} {p x : Operand} : aL E ops (⟨none, .store t p x, ty, pos, af, none⟩ :: os) K ⟨f, rows, clk⟩ = ∃ id r, pD E t rows (aQ f p) (aQ f x) .undef (some (id, r)) ∧ aL E ops os K ⟨f, dF rows id (some r), clk⟩ := by
 simp only [aL, dV, ys]
 apply propext
 constructor
 ·rintro ⟨v, u, h, h2⟩
  have h' := h
  obtain ⟨_, rfl, h3⟩ := h
  split at h3
  ·obtain ⟨_, _, _, _, _, _, _, _, _, _, rfl⟩ := h3
   exact ⟨_, _, h', h2⟩
  ·exact h3.elim
 ·rintro ⟨id, r, h, h2⟩; exact ⟨.undef, some (id, r), h, h2⟩
theorem MO {t : TypeId} : aL E ops (⟨d, .alloc t, ty, pos, af, none⟩ :: os) K ⟨f, rows, clk⟩ = aH ((E.ty t).known = true) (aL E ops os K ⟨put f d (.ptr (d.getD 0) clk 0 0), dF rows (d.getD 0) (some ⟨clk, t, (E.ty t).size, [(E.ty t).zero]⟩), clk + 1⟩) := rfl
theorem XY {t : TypeId} {x : Operand} : aL E ops (⟨d, .box t x, ty, pos, af, none⟩ :: os) K ⟨f, rows, clk⟩ = aH ((E.ty t).known = true) (∃ l, bP (aQ f x) = some l ∧ (∀ q ∈ l, gU rows q) ∧ l.length = (E.ty t).size ∧ aL E ops os K ⟨put f d (.ptr (d.getD 0) clk 0 0), dF rows (d.getD 0) (some ⟨clk, t, (E.ty t).size, [l]⟩), clk + 1⟩) := rfl
def pI (t : TI) (x y : PV) (K : TypeId → Nat → List PV → Int → Prop) : Prop :=
 match t, x, y with
 | .slice e n b z, .int _ x, .int _ y => aH (0 ≤ x ∧ x ≤ y ∧ y.toNat ≤ room ∧ y.toNat * b ≤ room) (K e n z x)
 | _, _, _ => False
theorem y7 {t : TypeId} {l c : Operand} : aL E ops (⟨d, .makeSlice t l c, ty, pos, af, none⟩ :: os) K ⟨f, rows, clk⟩ = pI (E.ty t) (aQ f l) (aQ f c) fun e n z x => aL E ops os K ⟨put f d (.own (d.getD 0) clk 0 x.toNat), dF rows (d.getD 0) (some ⟨clk, e, n, List.replicate x.toNat z⟩), clk + 1⟩ := by
 simp only [aL, dV, pI, EK]
 generalize E.ty t = T
 generalize aQ f l = A
 generalize aQ f c = B
 cases T with
 | slice e n b z =>
  cases A with
  | int k x =>
   cases B with
   | int k2 y => simp only [aH, and_assoc]
   | _ => rfl
  | _ => rfl
 | _ => rfl
def TJ (t : TI) (rows : Rows) (x y : PV) (clk d : Nat) (K : PV → Rows → Nat → Prop) : Prop :=
 match t with
 | .slice e n b _ =>
  ∃ l, s8 rows y l ∧ (∀ e ∈ l, e.length = n) ∧
  match x with
  | .nil => aH (l.length ≤ room ∧ l.length * b ≤ room) (K (.own d clk 0 l.length) (dF rows d (some ⟨clk, e, n, l⟩)) (clk + 1))
  | .own id ver off len => ∃ r, rows id = some r ∧ r.ver = ver ∧ off = 0 ∧ len = r.els.length ∧ r.e = e ∧ r.size = n ∧ aH (len + l.length ≤ room ∧ (len + l.length) * b ≤ room) (K (.own id clk 0 (len + l.length)) (dF rows id (some ⟨clk, e, n, r.els ++ l⟩)) (clk + 1))
  | .i3 l0 => (∀ e ∈ l0, e.length = n) ∧ (∀ e ∈ l, ∀ p ∈ e, bZ p = true) ∧ aH (l0.length + l.length ≤ room ∧ (l0.length + l.length) * b ≤ room) (K (.sl (l0 ++ l)) rows clk)
  | _ => False
 | _ => False
theorem HU {t t2 : TypeId} {x y : Operand} : aL E ops (⟨d, .call { callee := .builtin .append, args := ⟨[x, y]⟩, argTypes := ⟨[t, t2]⟩ }, ty, pos, af, none⟩ :: os) K ⟨f, rows, clk⟩ =
  aH (t2 = t ∨ WU (E.ty t2) = true) (TJ (E.ty t) rows (aQ f x) (aQ f y) clk (d.getD 0) fun v rows clk => aL E ops os K ⟨put f d v, rows, clk⟩) := by
 simp only [aL, dV, EL, TJ, EK, aH, PS.put]
 congr 1
 generalize E.ty t = T
 generalize aQ f x = A
 cases T with
 | slice e n b z =>
  simp only
  congr 1
  funext l
  congr 2
  cases A with
  | nil => simp only [and_assoc]
  | own id ver off len => simp only [and_assoc]
  | i3 l0 => simp only [and_assoc]
  | _ => rfl
 | _ => rfl
end
def tB (P : Program) (g : FuncId) (args : List PV) (K : PV → Prop) : Prop := ∃ v, aJ P g args v ∧ K v
@[congr] theorem afw {P : Program} {g : FuncId} {args HV : List PV} {K : PV → Prop} (h : args = HV) : tB P g args K = tB P g HV K := by rw [h]
def pJ (E : Env) (p : PV) (fH : List PV) (rows : Rows) (clk : Nat) (K : PV → Rows → Nat → Prop) : Prop :=
 match p with
 | .fn g bT => if E.writes g = true then bT = [] ∧ vZ E.P g fH rows clk K else aH ((fH.map (pz rows)).all eY = true ∧ dO rows (fH.flatMap dC)) (tB E.P g (fH.map (pz rows) ++ bT) fun v => K v (CN rows (fH.flatMap dC)) clk)
 | _ => False
@[congr] theorem acP {E : Env} {p p' : PV} {fH wH : List PV} {rows rows' : Rows} {clk jU : Nat} {K : PV → Rows → Nat → Prop} (h1 : p = p') (h2 : fH = wH) (h3 : rows = rows') (h4 : clk = jU) : pJ E p fH rows clk K = pJ E p' wH rows' jU K := by rw [h1, h2, h3, h4]
@[congr] theorem afx {P : Program} {g : FuncId} {fH wH : List PV} {rows : Rows} {clk : Nat} {K : PV → Rows → Nat → Prop} (h : fH = wH) : vZ P g fH rows clk K = vZ P g wH rows clk K := by rw [h]
@[congr] theorem afy {t t' : TI} {x x' y y' : PV} {K : TypeId → Nat → List PV → Int → Prop} (h1 : t = t') (h2 : x = x') (h3 : y = y') : pI t x y K = pI t' x' y' K := by rw [h1, h2, h3]
@[congr] theorem ahS {t t' : TI} {rows rows' : Rows} {x x' y y' : PV} {clk jU d d' : Nat} {K : PV → Rows → Nat → Prop} (h1 : t = t') (h2 : rows = rows') (h3 : x = x') (h4 : y = y') (h5 : clk = jU) (h6 : d = d') :
  TJ t rows x y clk d K = TJ t' rows' x' y' jU d' K := by rw [h1, h2, h3, h4, h5, h6]
section
variable {E : Env} {ops os : List Oper} {K : PS → Prop} {f : Nat → PV} {rows : Rows} {clk : Nat} {d : Option Tmp} {ty : TypeId} {pos : String} {af : Array Edge}
theorem TL {fo : Operand} {args : Array Operand} {ts : Array TypeId} : aL E ops (⟨d, .call { callee := .value fo, args := args, argTypes := ts }, ty, pos, af, none⟩ :: os) K ⟨f, rows, clk⟩ =
  pJ E (aQ f fo) (args.toList.map (aQ f)) rows clk fun v rows clk => aL E ops os K ⟨put f d v, rows, clk⟩ := by
 simp only [aL, dV, wB, pJ, L0, aH, tB]
 generalize aQ f fo = A
 have e1 : (args.toList.map fun x => pz rows (aQ f x)) = (args.toList.map (aQ f)).map (pz rows) := by rw [List.map_map]; rfl
 have e2 : (args.toList.flatMap fun x => dC (aQ f x)) = (args.toList.map (aQ f)).flatMap dC := by rw [List.flatMap_map]
 rw [e1, e2]
 cases A with
 | fn g bT =>
  have hm : ahr E (.fn g bT) = E.writes g := rfl
  by_cases hw : E.writes g = true
  ·rw [hm, if_pos hw]
   cases bT with
   | nil => simp [hw]
   | cons x l => simp [hw]
  rw [hm, if_neg hw]
  simp only [if_neg hw]
  apply propext
  constructor
  ·rintro ⟨v, ⟨h1, h2⟩, h3, h4⟩; exact ⟨⟨h1, h3⟩, v, h2, h4⟩
  ·rintro ⟨⟨h1, h3⟩, v, h2, h4⟩; exact ⟨v, ⟨h1, h2⟩, h3, h4⟩
 | _ => simp [ahr]
theorem BR {g : FuncId} {bT : Array Operand} : aL E ops (⟨d, .makeFunc (.func g) ⟨[]⟩ bT, ty, pos, af, none⟩ :: os) K ⟨f, rows, clk⟩ =
  aH (((bT.toList.map (aQ f)).map (pz rows)).all eY = true ∧ dO rows ((bT.toList.map (aQ f)).flatMap dC))
   (aL E ops os K ⟨put f d (.fn g ((bT.toList.map (aQ f)).map (pz rows))), CN rows ((bT.toList.map (aQ f)).flatMap dC), clk⟩) := by
 simp only [aL, dV, aH, and_assoc]
 have e1 : (bT.toList.map fun x => pz rows (aQ f x)) = (bT.toList.map (aQ f)).map (pz rows) := by rw [List.map_map]; rfl
 have e2 : (bT.toList.flatMap fun x => dC (aQ f x)) = (bT.toList.map (aQ f)).flatMap dC := by rw [List.flatMap_map]
 rw [e1, e2]
def kD (k : Nat) (l : List Nat) (t : Nat → Nat → Prop) : Nat → Nat → Prop := fun k' id => (true = true ∧ k' = k ∧ id ∈ l) ∨ t k' id
def nY (k id : Nat) (w : Nat → Nat → Prop) : Nat → Nat → Prop := fun k' iY => (k' = k ∧ iY = id) ∨ w k' iY
variable {k : Nat} {bL : Nat → Nat → Prop} {aO : Nat → Nat → Prop}
theorem MP {op : Op} {j : Nat} {want : Bool} : aN E ops clk k (⟨d, op, ty, pos, af, some (j, want)⟩ :: os) K ⟨f, rows, bL, aO⟩ =
  match (ops[j]?).bind (·.dst) with
  | none => False
  | some e => stepG (f e) want (aN E ops clk k (⟨d, op, ty, pos, af, none⟩ :: os) K ⟨f, rows, bL, aO⟩) (aN E ops clk (k + 1) os K ⟨put f d (.eP []), rows, bL, aO⟩) := by
 have e3 : app k ⟨d, op, ty, pos, af, some (j, want)⟩ false (.eP []) none ⟨f, rows, bL, aO⟩ = ⟨put f d (.eP []), rows, bL, aO⟩ := by simp [app, fE, wlU]
 simp only [aN, e3]
 cases hx : (ops[j]?).bind (·.dst) with
 | none => rfl
 | some e => rfl
theorem cH {o : Oper} {R : PV → Prop} {kk : PV → Prop} {st : ST} (h : ∀ v, R v ↔ kk v) : (∃ v u, (R v ∧ u = none) ∧ S8 .any ops k u bL ∧ aN E ops clk (k + 1) os K (app k o true v u st)) = aU kk fun v => aN E ops clk (k + 1) os K (app k o true v none st) := by
 apply propext; simp only [aU]
 constructor
 ·rintro ⟨v, u, ⟨h1, rfl⟩, _, h2⟩; exact ⟨v, (h v).1 h1, h2⟩
 ·rintro ⟨v, h1, h2⟩; exact ⟨v, none, ⟨(h v).2 h1, rfl⟩, trivial, h2⟩
theorem eC {op : Op} {v : PV} (h : gP op (aQ f) = []) : app k ⟨d, op, ty, pos, af, none⟩ true v none ⟨f, rows, bL, aO⟩ = ⟨put f d v, rows, bL, aO⟩ := by simp [app, fE, wlU, h]
theorem qM {op : Op} {v : PV} {l : List Nat} (h : gP op (aQ f) = l) : app k ⟨d, op, ty, pos, af, none⟩ true v none ⟨f, rows, bL, aO⟩ = ⟨put f d v, rows, kD k l bL, aO⟩ := by subst h; rfl
theorem TM {x : Operand} : aN E ops clk k (⟨d, .move x, ty, pos, af, none⟩ :: os) K ⟨f, rows, bL, aO⟩ = aN E ops clk (k + 1) os K ⟨put f d (aQ f x), rows, bL, aO⟩ := by
 simp only [aN, yn, gQ, ys, yv]
 rw [cH (kk := fun v => v = aQ f x) (fun v => Iff.rfl), i7, eC rfl]
theorem HW {x : Operand} : aN E ops clk k (⟨d, .assign x, ty, pos, af, none⟩ :: os) K ⟨f, rows, bL, aO⟩ = aN E ops clk (k + 1) os K ⟨put f d (aQ f x), rows, bL, aO⟩ := by
 simp only [aN, yn, gQ, ys, yv]
 rw [cH (kk := fun v => v = aQ f x) (fun v => Iff.rfl), i7, eC rfl]
theorem TN {c a b : Operand} : aN E ops clk k (⟨d, .pick c a b, ty, pos, af, none⟩ :: os) K ⟨f, rows, bL, aO⟩ = gM (aQ f c) true (aN E ops clk (k + 1) os K ⟨put f d (aQ f a), rows, bL, aO⟩) (aN E ops clk (k + 1) os K ⟨put f d (aQ f b), rows, bL, aO⟩) := by
 simp only [aN, yn, gQ, ys, yv]
 rw [cH (fun v => Iff.rfl)]
 apply propext; simp only [aU, gM, eC (op := .pick c a b) rfl]
 constructor
 ·rintro ⟨v, ⟨t, h1, rfl⟩, h2⟩
  refine ⟨t, h1, fun h => ?_, fun h => ?_⟩
  ·subst h; exact h2
  ·subst h; exact h2
 ·rintro ⟨t, h1, h2, h3⟩
  cases t with
  | true => exact ⟨_, ⟨true, h1, rfl⟩, h2 rfl⟩
  | false => exact ⟨_, ⟨false, h1, rfl⟩, h3 rfl⟩
theorem XZ {op : BinOp} {t t2 : TypeId} {x y : Operand} : aN E ops clk k (⟨d, .binOp op t x y t2, ty, pos, af, none⟩ :: os) K ⟨f, rows, bL, aO⟩ = aU (fun v => EA E op t (aQ f x) (aQ f y) v) fun v => aN E ops clk (k + 1) os K ⟨put f d v, rows, bL, aO⟩ := by
 simp only [aN, yn, gQ, ys, yv]; rw [cH (fun v => Iff.rfl)]; simp only [eC (op := .binOp op t x y t2) rfl]
theorem acQ {op : UnOp} {t : TypeId} {x : Operand} : aN E ops clk k (⟨d, .unOp op t x, ty, pos, af, none⟩ :: os) K ⟨f, rows, bL, aO⟩ = aU (fun v => yun op (aQ f x) v) fun v => aN E ops clk (k + 1) os K ⟨put f d v, rows, bL, aO⟩ := by
 simp only [aN, yn, gQ, ys, yv]; rw [cH (fun v => Iff.rfl)]; simp only [eC (op := .unOp op t x) rfl]
theorem TO {s t : TypeId} {x : Operand} : aN E ops clk k (⟨d, .convert s t x, ty, pos, af, none⟩ :: os) K ⟨f, rows, bL, aO⟩ = aU (fun v => rI (E.ty s) (E.ty t) (aQ f x) v) fun v => aN E ops clk (k + 1) os K ⟨put f d v, rows, bL, aO⟩ := by
 simp only [aN, yn, gQ, ys, yv]; rw [cH (fun v => Iff.rfl)]; simp only [eC (op := .convert s t x) rfl]
theorem EU {i : Nat} {x : Operand} : aN E ops clk k (⟨d, .extract x i, ty, pos, af, none⟩ :: os) K ⟨f, rows, bL, aO⟩ = aU (fun v => LI i (aQ f x) v) fun v => aN E ops clk (k + 1) os K ⟨put f d v, rows, bL, aO⟩ := by
 simp only [aN, yn, gQ, ys, yv]; rw [cH (fun v => Iff.rfl)]; simp only [eC (op := .extract x i) rfl]
theorem TP {t : TypeId} {x : Operand} : aN E ops clk k (⟨d, .load t x, ty, pos, af, none⟩ :: os) K ⟨f, rows, bL, aO⟩ = aU (fun v => rG E t (dP .any ops k aO rows) (aQ f x) v) fun v => aN E ops clk (k + 1) os K ⟨put f d v, rows, kD k (aZ (aQ f x)) bL, aO⟩ := by
 simp only [aN, yn, gQ, ys, yv]; rw [cH (fun v => Iff.rfl)]; simp only [qM (op := .load t x) rfl]; rfl
theorem MQ {t : TypeId} {i : Nat} {x : Operand} : aN E ops clk k (⟨d, .field t x i, ty, pos, af, none⟩ :: os) K ⟨f, rows, bL, aO⟩ = aU (fun v => rV E t i (aQ f x) v) fun v => aN E ops clk (k + 1) os K ⟨put f d v, rows, bL, aO⟩ := by
 simp only [aN, yn, gQ, ys, yv]; rw [cH (fun v => Iff.rfl)]; simp only [eC (op := .field t x i) rfl]
theorem y8 {t : TypeId} {i : Nat} {x : Operand} : aN E ops clk k (⟨d, .fieldAddr t x i, ty, pos, af, none⟩ :: os) K ⟨f, rows, bL, aO⟩ = aU (fun v => eG E t (dP .any ops k aO rows) i (aQ f x) v) fun v => aN E ops clk (k + 1) os K ⟨put f d v, rows, kD k (aZ (aQ f x)) bL, aO⟩ := by
 simp only [aN, yn, gQ, ys, yv]; rw [cH (fun v => Iff.rfl)]; simp only [qM (op := .fieldAddr t x i) rfl]; rfl
theorem y9 {t : TypeId} {x y : Operand} : aN E ops clk k (⟨d, .indexAddr t x y, ty, pos, af, none⟩ :: os) K ⟨f, rows, bL, aO⟩ = aU (fun v => eH E t (dP .any ops k aO rows) (aQ f x) (aQ f y) v) fun v => aN E ops clk (k + 1) os K ⟨put f d v, rows, kD k (aZ (aQ f x)) bL, aO⟩ := by
 simp only [aN, yn, gQ, ys, yv]; rw [cH (fun v => Iff.rfl)]; simp only [qM (op := .indexAddr t x y) rfl]; rfl
theorem MR {t : TypeId} {x : Operand} {lo hi mx : Option Operand} : aN E ops clk k (⟨d, .slice t x lo hi mx, ty, pos, af, none⟩ :: os) K ⟨f, rows, bL, aO⟩ = aU (fun v => mQ E t (dP .any ops k aO rows) (aQ f x) (lo.map (aQ f)) (hi.map (aQ f)) (mx.map (aQ f)) v) fun v => aN E ops clk (k + 1) os K ⟨put f d v, rows, kD k (aZ (aQ f x)) bL, aO⟩ := by
 simp only [aN, yn, gQ, ys, yv]; rw [cH (fun v => Iff.rfl)]; simp only [qM (op := .slice t x lo hi mx) rfl]; rfl
theorem MS {t : TypeId} {parts : Array (Nat × Operand)} : aN E ops clk k (⟨d, .build t parts, ty, pos, af, none⟩ :: os) K ⟨f, rows, bL, aO⟩ = aU (fun v => o9 (E.ty t) (parts.toList.map fun x => (x.1, aQ f x.2)) v) fun v => aN E ops clk (k + 1) os K ⟨put f d v, rows, bL, aO⟩ := by
 simp only [aN, yn, gQ, ys, yv]; rw [cH (fun v => Iff.rfl)]; simp only [eC (op := .build t parts) rfl]
theorem X0 {t : TypeId} {x : Operand} : aN E ops clk k (⟨d, .call { callee := .builtin .len, args := ⟨[x]⟩, argTypes := ⟨[t]⟩ }, ty, pos, af, none⟩ :: os) K ⟨f, rows, bL, aO⟩ = aU (fun v => vT (E.ty t) (dP .any ops k aO rows) (aQ f x) v) fun v => aN E ops clk (k + 1) os K ⟨put f d v, rows, kD k (aZ (aQ f x)) bL, aO⟩ := by
 simp only [aN, yn, gQ, ys, yv]; rw [cH (fun v => Iff.rfl)]; simp only [qM (op := .call { callee := .builtin .len, args := ⟨[x]⟩, argTypes := ⟨[t]⟩ }) rfl]; rfl
theorem BS {x : Operand} : aN E ops clk k (⟨d, .nilCheck x, ty, pos, af, none⟩ :: os) K ⟨f, rows, bL, aO⟩ = aU (fun v => BJ (dP .any ops k aO rows) (aQ f x) v) fun v => aN E ops clk (k + 1) os K ⟨put f d v, rows, kD k (aZ (aQ f x)) bL, aO⟩ := by
 simp only [aN, yn, gQ, ys, yv]; rw [cH (fun v => Iff.rfl)]; simp only [qM (op := .nilCheck x) rfl]; rfl
theorem X1 {ts : Array TypeId} {x y : Operand} : aN E ops clk k (⟨d, .call { callee := .builtin .max, args := ⟨[x, y]⟩, argTypes := ts }, ty, pos, af, none⟩ :: os) K ⟨f, rows, bL, aO⟩ = aU (fun v => LK (aQ f x) (aQ f y) v) fun v => aN E ops clk (k + 1) os K ⟨put f d v, rows, bL, aO⟩ := by
 simp only [aN, yn, gQ, ys, yv]; rw [cH (fun v => Iff.rfl)]; simp only [eC (op := .call { callee := .builtin .max, args := ⟨[x, y]⟩, argTypes := ts }) rfl]
theorem X3 {ts : Array TypeId} {x y : Operand} : aN E ops clk k (⟨d, .call { callee := .builtin .min, args := ⟨[x, y]⟩, argTypes := ts }, ty, pos, af, none⟩ :: os) K ⟨f, rows, bL, aO⟩ = aU (fun v => LM (aQ f x) (aQ f y) v) fun v => aN E ops clk (k + 1) os K ⟨put f d v, rows, bL, aO⟩ := by
 simp only [aN, yn, gQ, ys, yv]; rw [cH (fun v => Iff.rfl)]; simp only [eC (op := .call { callee := .builtin .min, args := ⟨[x, y]⟩, argTypes := ts }) rfl]
theorem BT {g : FuncId} {bT : Array Operand} : aN E ops clk k (⟨d, .makeFunc (.func g) ⟨[]⟩ bT, ty, pos, af, none⟩ :: os) K ⟨f, rows, bL, aO⟩ = aH ((bT.toList.map fun x => aQ f x).all eY = true) (aN E ops clk (k + 1) os K ⟨put f d (.fn g (bT.toList.map fun x => aQ f x)), rows, bL, aO⟩) := by
 simp only [aN, yn, gQ, ys, yv]
 rw [cH (fun v => Iff.rfl), iN, i7]; simp only [eC (op := .makeFunc (.func g) ⟨[]⟩ bT) rfl]
theorem xG {t : TypeId} {len : Nat} {parts : Array (Nat × Operand)} : aN E ops clk k (⟨d, .buildSlice t len parts, ty, pos, af, none⟩ :: os) K ⟨f, rows, bL, aO⟩ = aU (fun v => LZ (E.ty t) (dP .any ops k aO rows) len (parts.toList.map fun x => (x.1, aQ f x.2)) v) fun v => aN E ops clk (k + 1) os K ⟨put f d v, rows, bL, aO⟩ := by
 simp only [aN, yn, gQ, ys]; rw [cH (fun v => Iff.rfl)]; simp only [eC (op := .buildSlice t len parts) rfl]
theorem MT {t : TypeId} {p x : Operand} : aN E ops clk k (⟨none, .store t p x, ty, pos, af, none⟩ :: os) K ⟨f, rows, bL, aO⟩ =
  ∃ id r, pD E t (dP .any ops k aO rows) (aQ f p) (aQ f x) .undef (some (id, r)) ∧ yV .any ops k id bL ∧ aN E ops clk (k + 1) os K ⟨f, dF rows id (some r), kD k (aZ (aQ f p) ++ ((bP (aQ f x)).getD []).flatMap aZ) bL, nY k id aO⟩ := by
 simp only [aN, yn, gQ, ys]
 apply propext
 constructor
 ·rintro ⟨v, u, h, h1, h2⟩
  have h' := h
  obtain ⟨_, rfl, h3⟩ := h
  split at h3
  ·obtain ⟨_, _, _, _, _, _, _, _, _, _, rfl⟩ := h3
   exact ⟨_, _, h', h1, h2⟩
  ·exact h3.elim
 ·rintro ⟨id, r, h, h1, h2⟩; exact ⟨.undef, some (id, r), h, h1, h2⟩
theorem X4 {o : Oper} {R : PV → Option (Nat × Row) → Prop} {C : Prop} {v0 : PV} {e : Nat} {r0 : Row} {st : ST} {jU : Nat} (h : ∀ v u, R v u ↔ (C ∧ v = v0 ∧ u = some (e, r0))) : (∃ v u, R v u ∧ S8 .any ops k u bL ∧ aN E ops jU (k + 1) os K (app k o true v u st)) = aH (C ∧ yV .any ops k e bL) (aN E ops jU (k + 1) os K (app k o true v0 (some (e, r0)) st)) := by
 apply propext; simp only [aH]
 constructor
 ·rintro ⟨v, u, h1, h2, h3⟩
  obtain ⟨hc, rfl, rfl⟩ := (h v u).1 h1
  exact ⟨⟨hc, h2⟩, h3⟩
 ·rintro ⟨⟨h1, h2⟩, h3⟩; exact ⟨v0, _, (h _ _).2 ⟨h1, rfl, rfl⟩, h2, h3⟩
theorem tC {op : Op} {v : PV} {e : Nat} {r0 : Row} (h : gP op (aQ f) = []) : app k ⟨d, op, ty, pos, af, none⟩ true v (some (e, r0)) ⟨f, rows, bL, aO⟩ = ⟨put f d v, dF rows e (some r0), bL, nY k e aO⟩ := by simp only [app, fE, wlU, h, List.not_mem_nil, and_false, false_or]; rfl
theorem MU {t : TypeId} : aN E ops clk k (⟨d, .alloc t, ty, pos, af, none⟩ :: os) K ⟨f, rows, bL, aO⟩ = aH ((E.ty t).known = true ∧ yV .any ops k (d.getD 0) bL) (aN E ops (clk + 1) (k + 1) os K ⟨put f d (.ptr (d.getD 0) clk 0 0), dF rows (d.getD 0) (some ⟨clk, t, (E.ty t).size, [(E.ty t).zero]⟩), bL, nY k (d.getD 0) aO⟩) := by
 simp only [aN, yn, gQ]
 rw [X4 (C := (E.ty t).known = true) (v0 := .ptr (d.getD 0) clk 0 0) (e := d.getD 0) (r0 := ⟨clk, t, (E.ty t).size, [(E.ty t).zero]⟩) (fun v u => by simp), tC (op := .alloc t) rfl]
theorem X5 {t : TypeId} {x : Operand} : aN E ops clk k (⟨d, .box t x, ty, pos, af, none⟩ :: os) K ⟨f, rows, bL, aO⟩ = aH ((E.ty t).known = true) (∃ l, bP (aQ f x) = some l ∧ ((∀ q ∈ l, gU (fun _ => none) q) ∧ l.length = (E.ty t).size ∧ yV .any ops k (d.getD 0) bL) ∧
  aN E ops (clk + 1) (k + 1) os K ⟨put f d (.ptr (d.getD 0) clk 0 0), dF rows (d.getD 0) (some ⟨clk, t, (E.ty t).size, [l]⟩), bL, nY k (d.getD 0) aO⟩) := by
 simp only [aN, yn, gQ]
 apply propext
 constructor
 ·rintro ⟨v, u, ⟨h1, l, h2, h3, h4, rfl, rfl⟩, h5, h6⟩
  rw [tC (op := .box t x) rfl] at h6
  exact ⟨h1, l, h2, ⟨h3, h4, h5⟩, h6⟩
 ·rintro ⟨h1, l, h2, ⟨h3, h4, h5⟩, h6⟩
  refine ⟨_, _, ⟨h1, l, h2, h3, h4, rfl, rfl⟩, h5, ?_⟩
  rw [tC (op := .box t x) rfl]; exact h6
theorem zA {t : TypeId} {l c : Operand} : aN E ops clk k (⟨d, .makeSlice t l c, ty, pos, af, none⟩ :: os) K ⟨f, rows, bL, aO⟩ = pI (E.ty t) (aQ f l) (aQ f c) fun e n z x => aH (yV .any ops k (d.getD 0) bL) (aN E ops (clk + 1) (k + 1) os K ⟨put f d (.own (d.getD 0) clk 0 x.toNat), dF rows (d.getD 0) (some ⟨clk, e, n, List.replicate x.toNat z⟩), bL, nY k (d.getD 0) aO⟩) := by
 have WN : ∀ {v e' r0}, app k ⟨d, .makeSlice t l c, ty, pos, af, none⟩ true v (some (e', r0)) ⟨f, rows, bL, aO⟩ = ⟨put f d v, dF rows e' (some r0), bL, nY k e' aO⟩ := tC rfl
 simp only [aN, yn, gQ, pI]
 generalize E.ty t = T
 generalize aQ f l = A
 generalize aQ f c = B
 cases T with
 | slice e n b z =>
  cases A with
  | int k1 x =>
   cases B with
   | int k2 y =>
    apply propext
    simp only [aH]
    constructor
    ·rintro ⟨v, u, ⟨h1, h2, h3, h4, rfl, rfl⟩, h5, h6⟩
     rw [WN] at h6
     exact ⟨⟨h1, h2, h3, h4⟩, h5, h6⟩
    ·rintro ⟨⟨h1, h2, h3, h4⟩, h5, h6⟩
     refine ⟨_, _, ⟨h1, h2, h3, h4, rfl, rfl⟩, h5, ?_⟩
     rw [WN]; exact h6
   | _ => simp
  | _ => simp
 | _ => simp
theorem HX {t t2 : TypeId} {x y : Operand} : aN E ops clk k (⟨d, .call { callee := .builtin .append, args := ⟨[x, y]⟩, argTypes := ⟨[t, t2]⟩ }, ty, pos, af, none⟩ :: os) K ⟨f, rows, bL, aO⟩ =
  aH (t2 = t ∨ WU (E.ty t2) = true) (∃ v id r, pG (E.ty t) (dP .any ops k aO rows) (aQ f x) (aQ f y) clk (d.getD 0) v (some (id, r)) ∧ yV .any ops k id bL ∧
   aN E ops (clk + 1) (k + 1) os K ⟨put f d v, dF rows id (some r), kD k (aZ (aQ f x) ++ aZ (aQ f y)) bL, nY k id aO⟩) := by
 have WN : ∀ {v e' r0}, app k ⟨d, .call { callee := .builtin .append, args := ⟨[x, y]⟩, argTypes := ⟨[t, t2]⟩ }, ty, pos, af, none⟩ true v (some (e', r0)) ⟨f, rows, bL, aO⟩ = ⟨put f d v, dF rows e' (some r0), kD k (aZ (aQ f x) ++ aZ (aQ f y)) bL, nY k e' aO⟩ := rfl
 simp only [aN, yn, gQ, aH]
 apply propext
 constructor
 ·rintro ⟨v, u, ⟨h1, h2⟩, h3, h4⟩
  refine ⟨h1, ?_⟩
  have h2' := h2
  unfold pG at h2'
  split at h2'
  ·obtain ⟨l, g1, g2, g3⟩ := h2'
   split at g3
   ·obtain ⟨_, _, rfl, rfl⟩ := g3
    exact ⟨_, _, _, h2, h3, h4⟩
   ·obtain ⟨r, _, _, _, _, _, _, _, _, rfl, rfl⟩ := g3
    exact ⟨_, _, _, h2, h3, h4⟩
   ·exact g3.elim
  ·exact h2'.elim
 ·rintro ⟨h1, v, id, r, h2, h3, h4⟩
  exact ⟨v, _, ⟨h1, h2⟩, h3, h4⟩
def nZ (E : Env) (p : PV) (fH : List PV) (rows : Rows) (K : PV → Prop) : Prop :=
 match p with
 | .fn g bT => aH ((fH.map (pz rows)).all eY = true ∧ fH.flatMap dC = []) (tB E.P g (fH.map (pz rows) ++ bT) K)
 | _ => False
@[congr] theorem acR {E : Env} {p p' : PV} {fH wH : List PV} {rows rows' : Rows} {K : PV → Prop} (h1 : p = p') (h2 : fH = wH) (h3 : rows = rows') : nZ E p fH rows K = nZ E p' wH rows' K := by rw [h1, h2, h3]
theorem CT {fo : Operand} {args : Array Operand} {ts : Array TypeId} (hfo : cU E (.call { callee := .value fo, args := args, argTypes := ts }) = false) : aN E ops clk k (⟨d, .call { callee := .value fo, args := args, argTypes := ts }, ty, pos, af, none⟩ :: os) K ⟨f, rows, bL, aO⟩ =
  nZ E (aQ f fo) (args.toList.map (aQ f)) (dP .any ops k aO rows) fun v => aN E ops clk (k + 1) os K ⟨put f d v, rows, bL, aO⟩ := by
 simp only [aN]
 rw [yW hfo]
 simp only [yU hfo, ys, wB, nZ, aH, tB]
 generalize hA : aQ f fo = A
 have e1 : (args.toList.map fun x => pz (dP .any ops k aO rows) (aQ f x)) = (args.toList.map (aQ f)).map (pz (dP .any ops k aO rows)) := by rw [List.map_map]; rfl
 have e2 : (args.toList.flatMap fun x => dC (aQ f x)) = (args.toList.map (aQ f)).flatMap dC := by rw [List.flatMap_map]
 rw [e1, e2]
 have e3 : ∀ v, app k ⟨d, .call { callee := .value fo, args := args, argTypes := ts }, ty, pos, af, none⟩ true v none ⟨f, rows, bL, aO⟩ = ⟨put f d v, rows, bL, aO⟩ := fun v => eC rfl
 cases A with
 | fn g bT =>
  apply propext
  constructor
  ·rintro ⟨v, u, ⟨rfl, ⟨h1, h2⟩, h3⟩, _, h4⟩; rw [e3] at h4; exact ⟨⟨h1, h3⟩, v, h2, h4⟩
  ·rintro ⟨⟨h1, h3⟩, v, h2, h4⟩; exact ⟨v, none, ⟨rfl, ⟨h1, h2⟩, h3⟩, trivial, by rw [e3]; exact h4⟩
 | _ => simp
theorem MV {g : FuncId} {args : Array Operand} {ts : Array TypeId} (hw : E.writes g = true) : aN E ops clk k (⟨d, .call { callee := .value (.func g), args := args, argTypes := ts }, ty, pos, af, none⟩ :: os) K ⟨f, rows, bL, aO⟩ =
  ∃ e n els, ((args.toList.map (aQ f)).all eY = true ∧ gH E.P g (args.toList.map (aQ f)) e n els ∧ yV .any ops k (d.getD 0) bL) ∧ aN E ops (clk + 1) (k + 1) os K ⟨put f d (.own (d.getD 0) clk 0 els.length), dF rows (d.getD 0) (some ⟨clk, e, n, els⟩), bL, nY k (d.getD 0) aO⟩ := by
 have WN : ∀ {v e' r0}, app k ⟨d, .call { callee := .value (.func g), args := args, argTypes := ts }, ty, pos, af, none⟩ true v (some (e', r0)) ⟨f, rows, bL, aO⟩ = ⟨put f d v, dF rows e' (some r0), bL, nY k e' aO⟩ := tC rfl
 simp only [aN, yn, gQ]
 rw [if_pos hw]
 simp only [if_pos hw]
 apply propext
 constructor
 ·rintro ⟨v, u, ⟨h1, e, n, els, h2, rfl, rfl⟩, h3, h4⟩
  rw [WN] at h4
  exact ⟨e, n, els, ⟨h1, h2, h3⟩, h4⟩
 ·rintro ⟨e, n, els, ⟨h1, h2, h3⟩, h4⟩
  refine ⟨_, _, ⟨h1, e, n, els, h2, rfl, rfl⟩, h3, ?_⟩
  rw [WN]; exact h4
@[simp] theorem amS {md : Region.Mode} {ops : List Oper} {j : Nat} {rows : Rows} : dP md ops j (fun _ _ => False) rows = rows := by
 funext id; simp [dP]
@[simp] theorem amT {md : Region.Mode} {ops : List Oper} {j k id : Nat} {w : Nat → Nat → Prop} {rows : Rows} : dP md ops j (nY k id w) rows = if nW md ops j k = true then dP md ops j w rows else dF (dP md ops j w rows) id none := by
 funext x
 unfold dP nY
 by_cases hd : nW md ops j k = true
 ·rw [if_pos hd]
  have : (∃ k', ((k' = k ∧ x = id) ∨ w k' x) ∧ nW md ops j k' = false) ↔ ∃ k', w k' x ∧ nW md ops j k' = false := by
   constructor
   ·rintro ⟨k', ⟨rfl, _⟩ | h, h2⟩
    ·rw [hd] at h2; cases h2
    ·exact ⟨k', h, h2⟩
   ·rintro ⟨k', h, h2⟩; exact ⟨k', .inr h, h2⟩
  exact (by classical exact ite_congr (propext this) (fun _ => rfl) (fun _ => rfl))
 ·rw [if_neg hd]
  have W8 : nW md ops j k = false := by simpa using hd
  simp only [dF]
  by_cases hx : x = id
  ·rw [if_pos hx, if_pos ⟨k, .inl ⟨rfl, hx⟩, W8⟩]
  ·rw [if_neg hx]
   have : (∃ k', ((k' = k ∧ x = id) ∨ w k' x) ∧ nW md ops j k' = false) ↔ ∃ k', w k' x ∧ nW md ops j k' = false := by
    constructor
    ·rintro ⟨k', ⟨_, h⟩ | h, h2⟩
     ·exact absurd h hx
     ·exact ⟨k', h, h2⟩
    ·rintro ⟨k', h, h2⟩; exact ⟨k', .inr h, h2⟩
   exact (by classical exact ite_congr (propext this) (fun _ => rfl) (fun _ => rfl))
@[simp] theorem aqp {md : Region.Mode} {ops : List Oper} {i id : Nat} : yV md ops i id (fun _ _ => False) = True := by simp [yV]
@[simp] theorem aqq {md : Region.Mode} {ops : List Oper} {i id k : Nat} {l : List Nat} {t : Nat → Nat → Prop} : yV md ops i id (kD k l t) = ((id ∈ l → nW md ops i k = true) ∧ yV md ops i id t) := by
 apply propext
 unfold yV kD
 constructor
 ·intro h; exact ⟨fun hi => h k (.inl ⟨rfl, rfl, hi⟩), fun k' hk => h k' (.inr hk)⟩
 ·rintro ⟨h1, h2⟩ k' (⟨_, rfl, h⟩ | h)
  ·exact h1 h
  ·exact h2 k' h
end
end Pm
