import Derived.StillTail
import Derived.Deep.LoopGhost
import Derived.Test.YtelhfbikiccfkaaGreatBab
set_option linter.unusedSimpArgs false
set_option linter.unusedVariables false
namespace Pm
open Go Go.RowKit
def iD (P : Program) (f : FuncId) (args : List PV) (e : TypeId) (n : Nat) (els : List (List PV)) : Prop :=
 (∃ fn c, P.funcs[f]? = some fn ∧ fn.body = some c ∧ (fn.name == "runtime.NumGoroutine") = false) ∧
 ∀ (w : World) (S : dW) (vs : List Value), (∀ b o, S b o → b < w.heap.size) → bM S w args vs →
  Calls P f vs.toArray w fun x w' => ∃ (v : Value) (xs : List Value) (S' : dW), x = .returned v ∧ Below w.heap.size w w' ∧ (∀ b o, S b o → S' b o) ∧ (∀ b o, S' b o → S b o ∨ (w.heap.size ≤ b ∧ b < w'.heap.size)) ∧
   w'.ownsRow w.heap.size e n v els.length xs ∧ bB (c9 S' w') els.flatten xs ∧ (∀ y ∈ xs, y.oneCell' = true) ∧ (∀ x ∈ els, x.length = n) ∧ 0 < n ∧ (∀ g o, v.ownBlock = some g → ¬ S' g o)
def VY (md : Region.Mode) (ops : List Oper) (j k : Nat) : Bool :=
 match ops[j]? with
 | some o => o.after.toList.any fun e => Region.binds md e && e.on == k
 | none => false
def oW (md : Region.Mode) (ops : List Oper) (j k : Nat) : Bool := VY md ops j k || (List.range ops.length).any fun h => VY md ops j h && VY md ops h k
structure ST where
 f : Nat → PV
 rows : Rows
 bS : Nat → Nat → Prop
 wl : Nat → Nat → Prop
def dK (E : Env) : Op → Bool
 | .alloc _ => true
 | .box _ _ => true
 | .makeSlice _ _ _ => true
 | .call { callee := .builtin .append, args := ⟨[_, _]⟩, argTypes := ⟨[_, _]⟩ } => true
 | .call { callee := .value (.func g), args := _, argTypes := _ } => E.writes g
 | _ => false
def tN (E : Env) (ops : List Oper) : Bool := ops.all fun o => !dK E o.op || (o.dst.isSome && o.guard.isNone)
def rk (E : Env) (ops : List Oper) (i : Nat) : Nat := ((ops.take i).filter fun o => dK E o.op).length
theorem SW {E : Env} {ops : List Oper} {i : Nat} {o : Oper} (h : ops[i]? = some o) : rk E ops (i + 1) = rk E ops i + if dK E o.op = true then 1 else 0 := by
 unfold rk
 rw [List.take_add_one, h]
 simp only [Option.toList_some, List.filter_append, List.length_append]
 congr 1
 cases hn : dK E o.op <;> simp [hn]
theorem aek {E : Env} {ops : List Oper} {i j : Nat} (h : i ≤ j) : rk E ops i ≤ rk E ops j := by
 unfold rk
 have : (ops.take i).Sublist (ops.take j) := by
  have := List.take_sublist i (ops.take j)
  rwa [List.take_take, Nat.min_eq_left h] at this
 exact (this.filter _).length_le
theorem ZW {E : Env} {ops : List Oper} {i j : Nat} {o : Oper} (h : ops[i]? = some o) (hn : dK E o.op = true) (YX : i < j) : rk E ops i < rk E ops j := by
 have h1 := SW (E := E) h
 rw [if_pos hn] at h1
 have := aek (E := E) (ops := ops) (show i + 1 ≤ j from YX)
 omega
theorem ai9 {E : Env} {ops : List Oper} {i j : Nat} {o o' : Oper} (h : ops[i]? = some o) (hn : dK E o.op = true) (h' : ops[j]? = some o') (yG : dK E o'.op = true) (he : rk E ops i = rk E ops j) : i = j := by
 rcases Nat.lt_trichotomy i j with h1 | h1 | h1
 ·have := ZW h hn h1; omega
 ·exact h1
 ·have := ZW h' yG h1; omega
def qI (t : TI) (rows : Rows) (x y : PV) (c0 d : Nat) (v : PV) (u : Option (Nat × Row)) : Prop :=
 match t with
 | .slice e n b _ => ∃ l, u2 rows y l ∧ (∀ e ∈ l, e.length = n) ∧
  match x with
  | .nil => l.length ≤ room ∧ l.length * b ≤ room ∧ v = .own d c0 0 l.length ∧ u = some (d, ⟨c0, e, n, l⟩)
  | .own id ver off len => ∃ r, rows id = some r ∧ r.ver = ver ∧ off = 0 ∧ len = r.els.length ∧ r.e = e ∧ r.size = n ∧ len + l.length ≤ room ∧ (len + l.length) * b ≤ room ∧
    v = .own id c0 0 (len + l.length) ∧ u = some (id, ⟨c0, e, n, r.els ++ l⟩)
  | _ => False
 | _ => False
def ag1 (E : Env) (g : FuncId) (args : List PV) (c0 d : Nat) (v : PV) (u : Option (Nat × Row)) : Prop :=
 args.all fW = true ∧ ∃ e n els, iD E.P g args e n els ∧ v = .own d c0 0 els.length ∧ u = some (d, ⟨c0, e, n, els⟩)
def yn (E : Env) (c0 : Nat) (d : Option Tmp) (op : Op) (ρ : Operand → PV) (rows : Rows) (v : PV) (u : Option (Nat × Row)) : Prop :=
 match op with
 | .alloc t => (E.ty t).known = true ∧ v = .ptr (d.getD 0) c0 0 0 ∧ u = some (d.getD 0, ⟨c0, t, (E.ty t).size, [(E.ty t).zero]⟩)
 | .box t x => (E.ty t).known = true ∧ ∃ l, bW (ρ x) = some l ∧ (∀ q ∈ l, iQ (fun _ => none) q) ∧ l.length = (E.ty t).size ∧ v = .ptr (d.getD 0) c0 0 0 ∧ u = some (d.getD 0, ⟨c0, t, (E.ty t).size, [l]⟩)
 | .makeSlice t l c =>
  match E.ty t, ρ l, ρ c with
  | .slice e n b z, .int _ x, .int _ y => 0 ≤ x ∧ x ≤ y ∧ y.toNat ≤ room ∧ y.toNat * b ≤ room ∧ v = .own (d.getD 0) c0 0 x.toNat ∧ u = some (d.getD 0, ⟨c0, e, n, List.replicate x.toNat z⟩)
  | _, _, _ => False
 | .call { callee := .builtin .append, args := ⟨[x, y]⟩, argTypes := ⟨[t, t2]⟩ } => (t2 = t ∨ ZN (E.ty t2) = true) ∧ qI (E.ty t) rows (ρ x) (ρ y) c0 (d.getD 0) v u
 | .call { callee := .value (.func g), args := aDY, argTypes := ts } => if E.writes g = true then ag1 E g (aDY.toList.map fun x => ρ x) c0 (d.getD 0) v u else ys E (.call { callee := .value (.func g), args := aDY, argTypes := ts }) ρ rows v u
 | op => ys E op ρ rows v u
theorem AZ {E : Env} {c0 : Nat} {d : Option Tmp} {op : Op} {ρ : Operand → PV} {rows : Rows} {v : PV} {u : Option (Nat × Row)} (h : dK E op = false) : yn E c0 d op ρ rows v u = ys E op ρ rows v u := by
 unfold yn
 split
 all_goals first
  | rfl
  | (simp [dK] at h; done)
  | (simp only [dK] at h; rw [if_neg (by rw [h]; decide)])
theorem m9 {E : Env} {op : Op} {C : Prop} (h : dK E op = true) (h1 : ∀ t, op = .alloc t → C) (h2 : ∀ t x, op = .box t x → C) (h3 : ∀ t l c, op = .makeSlice t l c → C)
  (h4 : ∀ x y t t2, op = .call { callee := .builtin .append, args := ⟨[x, y]⟩, argTypes := ⟨[t, t2]⟩ } → C) (h5 : ∀ g aDY ts, op = .call { callee := .value (.func g), args := aDY, argTypes := ts } → E.writes g = true → C) : C := by
 unfold dK at h
 split at h
 ·exact h1 _ rfl
 ·exact h2 _ _ rfl
 ·exact h3 _ _ _ rfl
 ·exact h4 _ _ _ _ rfl
 ·exact h5 _ _ _ rfl h
 ·cases h
theorem ael {rows rows' : Rows} {y : PV} {l : List (List PV)} (h : jQ (a9 y) rows rows') (hy : u2 rows y l) : u2 rows' y l ∧ ∀ id ∈ a9 y, ∃ r, rows id = some r := by
 unfold u2 at *
 cases y with
 | own id ver off len =>
  obtain ⟨r, hr, hh⟩ := hy
  exact ⟨⟨r, h id (by simp [a9]) r hr, hh⟩, by simp [a9]; exact ⟨r, hr⟩⟩
 | nil => exact ⟨hy, by simp [a9]⟩
 | sl l => exact ⟨hy, by simp [a9]⟩
 | jN l => exact ⟨hy, by simp [a9]⟩
 | _ => exact hy.elim
theorem ZY {t : TI} {rows rows' : Rows} {x y v : PV} {c0 d : Nat} {u : Option (Nat × Row)} (h : jQ (a9 x ++ a9 y) rows rows') (hy : qI t rows x y c0 d v u) : qI t rows' x y c0 d v u ∧ ∀ id ∈ a9 x ++ a9 y, ∃ r, rows id = some r := by
 unfold qI at *
 cases t with
 | slice e n b z =>
  obtain ⟨l, h1, h2, h3⟩ := hy
  obtain ⟨g1, g2⟩ := ael (fun id iI => h id (by simp only [List.mem_append]; exact .inr iI)) h1
  cases x with
  | nil => exact ⟨⟨l, g1, h2, h3⟩, fun id iI => g2 id (by simpa [a9] using iI)⟩
  | own id ver off len =>
   obtain ⟨r, hr, hh⟩ := h3
   refine ⟨⟨l, g1, h2, r, h id (by simp [a9]) r hr, hh⟩, fun jL iI => ?_⟩
   simp only [a9, List.mem_append, List.mem_cons, List.not_mem_nil, or_false] at iI
   rcases iI with rfl | iI
   ·exact ⟨r, hr⟩
   ·exact g2 jL iI
  | _ => exact h3.elim
 | _ => exact hy.elim
theorem SX {E : Env} {c0 : Nat} {d : Option Tmp} {op : Op} {ρ : Operand → PV} {rows rows' : Rows} {v : PV} {u : Option (Nat × Row)} (h : jQ (iM op ρ) rows rows') (hy : yn E c0 d op ρ rows v u) :
  yn E c0 d op ρ rows' v u ∧ (∀ id ∈ iM op ρ, ∃ r, rows id = some r) ∧ ∀ id r, u = some (id, r) → (dK E op = true ∧ id = d.getD 0) ∨ id ∈ iM op ρ := by
 cases hn : dK E op with
 | false =>
  rw [AZ hn] at hy ⊢
  obtain ⟨h1, h2, h3⟩ := ag0 h hy
  exact ⟨h1, h2, fun id r hu => .inr (h3 id r hu)⟩
 | true =>
  refine m9 hn ?_ ?_ ?_ ?_ ?_
  ·rintro t rfl
   refine ⟨hy, by simp [iM], fun id r hu => .inl ⟨by first | trivial | rfl, ?_⟩⟩
   obtain ⟨_, _, rfl⟩ := hy
   simp at hu; exact hu.1.symm
  ·rintro t x rfl
   refine ⟨hy, by simp [iM], fun id r hu => .inl ⟨by first | trivial | rfl, ?_⟩⟩
   obtain ⟨_, _, _, _, _, _, rfl⟩ := hy
   simp at hu; exact hu.1.symm
  ·rintro t l c rfl
   refine ⟨hy, by simp [iM], fun id r hu => .inl ⟨by first | trivial | rfl, ?_⟩⟩
   simp only [yn] at hy
   split at hy
   ·obtain ⟨_, _, _, _, _, rfl⟩ := hy
    simp at hu; exact hu.1.symm
   ·exact hy.elim
  ·rintro x y t t2 rfl
   simp only [yn, iM] at hy h ⊢
   obtain ⟨h2, h3⟩ := hy
   obtain ⟨g1, g2⟩ := ZY h h3
   refine ⟨⟨h2, g1⟩, g2, fun id r hu => ?_⟩
   unfold qI at h3
   split at h3
   ·obtain ⟨l, _, _, h3⟩ := h3
    split at h3
    ·obtain ⟨_, _, _, rfl⟩ := h3
     simp at hu; exact .inl ⟨by first | trivial | rfl, hu.1.symm⟩
    ·rename_i hx
     obtain ⟨_, _, _, _, _, _, _, _, _, _, rfl⟩ := h3
     simp at hu
     rw [hx]
     exact .inr (by simp [a9, hu.1])
    ·exact h3.elim
   ·exact h3.elim
  ·rintro g aDY ts rfl hw
   simp only [yn] at hy ⊢
   rw [if_pos hw] at hy
   rw [if_pos hw]
   refine ⟨hy, by simp [iM], fun id r hu => .inl ⟨by first | trivial | exact hw, ?_⟩⟩
   obtain ⟨_, _, _, _, _, _, rfl⟩ := hy
   simp at hu; exact hu.1.symm
open Classical in
noncomputable def eG (md : Region.Mode) (ops : List Oper) (j : Nat) (wl : Nat → Nat → Prop) (rows : Rows) : Rows := fun id => if ∃ k, wl k id ∧ oW md ops j k = false then none else rows id
theorem kH {md : Region.Mode} {ops : List Oper} {j id : Nat} {wl : Nat → Nat → Prop} {rows : Rows} {r : Row} : eG md ops j wl rows id = some r ↔ (∀ k, wl k id → oW md ops j k = true) ∧ rows id = some r := by
 unfold eG
 split
 ·rename_i h
  obtain ⟨k, h1, h2⟩ := h
  simp only [reduceCtorEq, false_iff, not_and]
  intro h3
  rw [h3 k h1] at h2; cases h2
 ·rename_i h
  refine ⟨fun h2 => ⟨fun k hk => ?_, h2⟩, fun h2 => h2.2⟩
  cases hd : oW md ops j k with
  | true => rfl
  | false => exact absurd ⟨k, hk, hd⟩ h
def A3 (md : Region.Mode) (ops : List Oper) (i id : Nat) (bS : Nat → Nat → Prop) : Prop := ∀ k, bS k id → oW md ops i k = true
def VZ (md : Region.Mode) (ops : List Oper) (i : Nat) (u : Option (Nat × Row)) (bS : Nat → Nat → Prop) : Prop :=
 match u with
 | none => True
 | some (id, _) => A3 md ops i id bS
def gOK (ops : Array Oper) (o : Oper) (f : Nat → PV) (b : Bool) : Prop :=
 match o.guard with
 | none => b = true
 | some (j, want) => ∃ d, (ops[j]?).bind (·.dst) = some d ∧ ((f d = .bool want ∧ b = true) ∨ ((f d = .bool (!want) ∨ f d = .fH []) ∧ b = false))
def YG (E : Env) (md : Region.Mode) (ops : Array Oper) (c0 : Nat) (i : Nat) (o : Oper) (b : Bool) (v : PV) (u : Option (Nat × Row)) (st : ST) : Prop :=
 gOK ops o st.f b ∧ if b = true then yn E (c0 + rk E ops.toList i) o.dst o.op (aR st.f) (eG md ops.toList i st.wl st.rows) v u else v = .fH [] ∧ u = none
def wlU (i : Nat) (u : Option (Nat × Row)) (wl : Nat → Nat → Prop) : Nat → Nat → Prop :=
 match u with
 | none => wl
 | some (id, _) => fun k jL => (k = i ∧ jL = id) ∨ wl k jL
def app (i : Nat) (o : Oper) (b : Bool) (v : PV) (u : Option (Nat × Row)) (st : ST) : ST :=
 { f := put st.f o.dst v, rows := gF st.rows u, bS := fun k id => (b = true ∧ k = i ∧ id ∈ iM o.op (aR st.f)) ∨ st.bS k id, wl := wlU i u st.wl }
def iN (E : Env) (op : Op) (clk : Nat) : Nat :=
 match op with
 | .alloc _ => clk + 1
 | .box _ _ => clk + 1
 | .makeSlice _ _ _ => clk + 1
 | .call { callee := .builtin .append, args := ⟨[_, _]⟩, argTypes := ⟨[_, _]⟩ } => clk + 1
 | .call { callee := .value (.func g), args := _, argTypes := _ } => if E.writes g = true then clk + 1 else clk
 | _ => clk
theorem A4 {E : Env} {op : Op} {clk : Nat} (h : dK E op = false) : iN E op clk = clk := by
 unfold iN
 split
 all_goals first
  | rfl
  | (simp [dK] at h; done)
  | (simp only [dK] at h; rw [if_neg (by rw [h]; decide)])
theorem ZZ {E : Env} {op : Op} {clk : Nat} (h : dK E op = true) : iN E op clk = clk + 1 := by
 refine m9 h ?_ ?_ ?_ ?_ ?_
 ·rintro t rfl; rfl
 ·rintro t x rfl; rfl
 ·rintro t l c rfl; rfl
 ·rintro x y t t2 rfl; rfl
 ·rintro g aDY ts rfl hw; simp only [iN]; rw [if_pos hw]
theorem aen {E : Env} {ops : List Oper} {i c0 : Nat} {o : Oper} (h : ops[i]? = some o) : iN E o.op (c0 + rk E ops i) = c0 + rk E ops (i + 1) := by
 rw [SW h]
 cases hn : dK E o.op with
 | false => rw [A4 hn]; simp
 | true => rw [ZZ hn]; simp; omega
def Z0 (E : Env) (md : Region.Mode) (ops : Array Oper) (c0 : Nat) (i : Nat) (K : ST → Prop) (st : ST) : Prop :=
 match ops[i]? with
 | none => K st
 | some o => ∃ b v u, YG E md ops c0 i o b v u st ∧ VZ md ops.toList i u st.bS ∧ K (app i o b v u st)
section
variable {E : Env} {ops : Array Oper} {md : Region.Mode}
theorem Z2 {c0 i : Nat} {K K' : ST → Prop} {st : ST} (h : ∀ st, K st → K' st) (hh : Z0 E md ops c0 i K st) : Z0 E md ops c0 i K' st := by
 unfold Z0 at *
 split
 ·exact h _ (by simpa [*] using hh)
 ·rename_i o ho
  simp only [ho] at hh
  obtain ⟨b, v, u, h1, h2, h3⟩ := hh
  exact ⟨b, v, u, h1, h2, h _ h3⟩
theorem SY {f : Nat → PV} {d : Option Tmp} {v : PV} {x : Operand} (h : ∀ t, d = some t → x ≠ .tmp t) : aR (put f d v) x = aR f x := by
 cases d with
 | none => rfl
 | some t =>
  cases x with
  | tmp s =>
   have : s ≠ t := fun e => h t rfl (by rw [e])
   simp [aR, put, this]
  | _ => rfl
theorem Z3 {op : Op} {ρ ρ' : Operand → PV} {rows : Rows} {v : PV} {u : Option (Nat × Row)} (h : ∀ x ∈ op.operands, ρ x = ρ' x) : ys E op ρ rows v u ↔ ys E op ρ' rows v u := by
 have parts : ∀ ps : Array (Nat × Operand), (∀ x ∈ (ps.toList.map (·.2)).toArray, ρ x = ρ' x) → (ps.toList.map fun x => (x.1, ρ x.2)) = ps.toList.map fun x => (x.1, ρ' x.2) := fun ps hp =>
  List.map_congr_left fun p hm => by rw [hp p.2 (by simp; exact ⟨p.1, by simpa using hm⟩)]
 have args : ∀ (c : Call), (∀ x ∈ c.operands, ρ x = ρ' x) → ∀ x ∈ c.args.toList, ρ x = ρ' x := fun c hc x hx => hc x (by simp [Call.operands]; exact .inr (by simpa using hx))
 unfold ys
 split
 ·rename_i t p x
  rw [h p (by simp [Op.operands]), h x (by simp [Op.operands])]
 ·rename_i t len ps
  rw [parts ps (by simpa [Op.operands] using h)]
 ·rename_i f aDY ts
  have ha := args _ (by simpa [Op.operands] using h)
  simp only at ha
  rw [h f (by simp [Op.operands, Call.operands]), List.map_congr_left (g := fun x => pz rows (ρ' x)) fun x hx => by rw [ha x hx]]
  have : (aDY.toList.flatMap fun x => dX (ρ x)) = aDY.toList.flatMap fun x => dX (ρ' x) := by
   rw [List.flatMap_def, List.flatMap_def]
   congr 1
   exact List.map_congr_left fun x hx => by rw [ha x hx]
  rw [this]
 ·suffices hs : yv E op ρ rows v ↔ yv E op ρ' rows v by rw [hs]
  unfold yv
  split
  case h_12 =>
   rename_i t x lo hi mx _ _ _
   have o1 : ∀ y : Option Operand, (∀ z, y = some z → ρ z = ρ' z) → y.map ρ = y.map ρ' := by
    intro y hy; cases y with
    | none => rfl
    | some z => simp [hy z rfl]
   rw [h x (by simp [Op.operands]), o1 lo fun z hz => h z (by subst hz; simp [Op.operands]), o1 hi fun z hz => h z (by subst hz; simp [Op.operands]), o1 mx fun z hz => h z (by subst hz; simp [Op.operands])]
  case h_13 => rename_i t ps _ _ _; rw [parts ps (by simpa [Op.operands] using h)]
  case h_15 =>
   rename_i f b6 _ _ _
   rw [List.map_congr_left (l := b6.toList) (f := fun x => ρ x) (g := fun x => ρ' x) fun x hx => h x (by simp [Op.operands]; simpa using hx)]
  all_goals first
   | rfl
   | (simp only [Op.operands, Call.operands] at h; simp [h])
theorem A5 {op : Op} {ρ ρ' : Operand → PV} (h : ∀ x ∈ op.operands, ρ x = ρ' x) : iM op ρ = iM op ρ' := by
 unfold iM
 split
 all_goals first
  | rfl
  | (simp only [Op.operands, Call.operands] at h; simp [h])
theorem J8 {c0 : Nat} {d : Option Tmp} {op : Op} {ρ ρ' : Operand → PV} {rows : Rows} {v : PV} {u : Option (Nat × Row)} (h : ∀ x ∈ op.operands, ρ x = ρ' x) : yn E c0 d op ρ rows v u ↔ yn E c0 d op ρ' rows v u := by
 cases hn : dK E op with
 | false => rw [AZ hn, AZ hn]; exact Z3 h
 | true =>
  refine m9 hn ?_ ?_ ?_ ?_ ?_
  ·rintro t rfl; exact Iff.rfl
  ·rintro t x rfl
   simp only [yn]
   rw [h x (by simp [Op.operands])]
  ·rintro t l c rfl
   simp only [yn]
   rw [h l (by simp [Op.operands]), h c (by simp [Op.operands])]
  ·rintro x y t t2 rfl
   simp only [yn]
   rw [h x (by simp [Op.operands, Call.operands]), h y (by simp [Op.operands, Call.operands])]
  ·rintro g aDY ts rfl hw
   simp only [yn]
   rw [if_pos hw, if_pos hw, List.map_congr_left (l := aDY.toList) (f := fun x => ρ x) (g := fun x => ρ' x) fun x hx => h x (by simp [Op.operands, Call.operands]; exact .inr (by simpa using hx))]
theorem J9 {o : Oper} {d : Tmp} {x : Operand} (h : d ∉ o.looksAt ops) (hx : x ∈ o.op.operands) : x ≠ .tmp d := by
 rintro rfl
 exact h (List.mem_append_left _ (List.mem_filterMap.2 ⟨.tmp d, by simpa using hx, rfl⟩))
theorem OY {c : Cx} : aJ c (.fH []) undef := by
 show c9 c.S c.w (.fH []) undef
 simp only [c9]
 exact ⟨[], rfl, rfl⟩
theorem iE {c : Cx} {tmps : Array Value} {j : Nat} {d : Tmp} {t : Bool} (h1 : (ops[j]?).bind (·.dst) = some d) (h : aJ c (.bool t) (tmps.getD d undef)) : yielded ops tmps j = some t := by
 rw [dO] at h
 unfold yielded
 rw [h1]
 simp only [Option.bind_some]
 cases hx : tmps[d]? with
 | none => simp [hx] at h; cases h
 | some y =>
  have hy : y = .bool t := by simpa [hx] using h
  rw [hy]
theorem tO {c : Cx} {tmps : Array Value} {j : Nat} {d : Tmp} (h1 : (ops[j]?).bind (·.dst) = some d) (h : aJ c (.fH []) (tmps.getD d undef)) : yielded ops tmps j = none := by
 have h2 : tmps.getD d undef = .tuple #[] := by
  have h3 : c9 c.S c.w (.fH []) (tmps.getD d undef) := h
  simp only [c9] at h3
  obtain ⟨vs, h4, h5⟩ := h3
  simp only [bM] at h5
  rw [h4, h5]
 unfold yielded
 rw [h1]
 simp only [Option.bind_some]
 cases hx : tmps[d]? with
 | none => rfl
 | some y =>
  have hy : y = .tuple #[] := by simpa [hx] using h2
  rw [hy]
theorem SZ {o : Oper} {f : Nat → PV} {dd : Option Tmp} {v : PV} {b : Bool} (h : ∀ d, dd = some d → d ∉ o.looksAt ops) : gOK ops o (put f dd v) b ↔ gOK ops o f b := by
 unfold gOK
 cases hg : o.guard with
 | none => rfl
 | some g =>
  obtain ⟨j, want⟩ := g
  simp only
  have key : ∀ d, (ops[j]?).bind (·.dst) = some d → put f dd v d = f d := by
   intro d h1
   cases dd with
   | none => rfl
   | some e =>
    have nZ : d ≠ e := by
     rintro rfl
     exact h d rfl (List.mem_append_right _ (by simp [hg, h1]))
    simp [put, nZ]
  constructor
  ·rintro ⟨d, h1, h2⟩
   rw [key d h1] at h2
   exact ⟨d, h1, h2⟩
  ·rintro ⟨d, h1, h2⟩
   rw [← key d h1] at h2
   exact ⟨d, h1, h2⟩
theorem put_comm {f : Nat → PV} {x y : Option Tmp} {v u : PV} (h : ∀ d, x = some d → y ≠ some d) : put (put f x v) y u = put (put f y u) x v := by
 cases x with
 | none => rfl
 | some d =>
  cases y with
  | none => rfl
  | some e =>
   have nZ : d ≠ e := fun he => h d rfl (by rw [he])
   funext j
   simp only [put]
   split <;> split <;> simp_all
theorem A6 {rows : Rows} {u : Option (Nat × Row)} {j : Nat} (h : ∀ r, u ≠ some (j, r)) : gF rows u j = rows j := by
 cases u with
 | none => rfl
 | some x =>
  obtain ⟨i, r⟩ := x
  simp only [gF, dZ]
  rw [if_neg]
  rintro rfl
  exact h r rfl
theorem oX {i : Nat} {u : Option (Nat × Row)} {wl : Nat → Nat → Prop} {k id : Nat} : wlU i u wl k id ↔ (k = i ∧ ∃ r, u = some (id, r)) ∨ wl k id := by
 cases u with
 | none => simp [wlU]
 | some x =>
  obtain ⟨jL, r⟩ := x
  simp only [wlU, Option.some.injEq, Prod.mk.injEq]
  constructor
  ·rintro (⟨h1, h2⟩ | h)
   ·exact .inl ⟨h1, r, h2.symm, rfl⟩
   ·exact .inr h
  ·rintro (⟨h1, r', h2, _⟩ | h)
   ·exact .inl ⟨h1, h2.symm⟩
   ·exact .inr h
theorem G8 {i : Nat} {u : Option (Nat × Row)} {bS : Nat → Nat → Prop} : VZ md ops.toList i u bS ↔ ∀ id r, u = some (id, r) → ∀ k, bS k id → oW md ops.toList i k = true := by
 cases u with
 | none => simp [VZ]
 | some x =>
  obtain ⟨jL, r⟩ := x
  simp only [VZ, A3, Option.some.injEq, Prod.mk.injEq]
  constructor
  ·rintro h _ _ ⟨rfl, _⟩; exact h
  ·intro h; exact h _ _ ⟨rfl, rfl⟩
theorem aeo {c0 i j : Nat} {oi oj : Oper} {bi : Bool} {vi : PV} {ui : Option (Nat × Row)} (hj : ops[j]? = some oj) (ZI : oi.apart ops oj = true) (hds : dK E oi.op = true → oi.dst.isSome = true) (auJ : dK E oj.op = true → oj.dst.isSome = true) (hdj : oW md ops.toList j i = false) {K : ST → Prop} {st : ST}
  (hy : YG E md ops c0 i oi bi vi ui st) (ho : VZ md ops.toList i ui st.bS) (h : Z0 E md ops c0 j K (app i oi bi vi ui st)) :
  Z0 E md ops c0 j (fun S2 => YG E md ops c0 i oi bi vi ui S2 ∧ VZ md ops.toList i ui S2.bS ∧ K (app i oi bi vi ui S2)) st := by
 obtain ⟨h1, h2, h3⟩ := Oper.apart_spec ZI
 unfold Z0 at h ⊢
 simp only [hj] at h ⊢
 obtain ⟨bj, vj, uj, ⟨hgj, hyj⟩, hoj, hK⟩ := h
 obtain ⟨hgi, V0⟩ := hy
 rw [G8] at hoj ho
 have ej : ∀ x ∈ oj.op.operands, aR (put st.f oi.dst vi) x = aR st.f x := fun x hx => SY fun t ht => J9 (h1 t ht) hx
 have ei : ∀ x ∈ oi.op.operands, aR (put st.f oj.dst vj) x = aR st.f x := fun x hx => SY fun t ht => J9 (h3 t ht) hx
 have auK : gOK ops oj st.f bj := (SZ h1).1 hgj
 have hnw : ∀ id r, eG md ops.toList j (app i oi bi vi ui st).wl (app i oi bi vi ui st).rows id = some r → ∀ r', ui ≠ some (id, r') := by
  intro id r hr r' hu
  obtain ⟨hw, _⟩ := kH.1 hr
  have := hw i (oX.2 (.inl ⟨rfl, r', hu⟩))
  rw [hdj] at this; cases this
 have hle : ∀ ids, jQ ids (eG md ops.toList j (app i oi bi vi ui st).wl (app i oi bi vi ui st).rows) (eG md ops.toList j st.wl st.rows) := by
  intro ids id _ r hr
  have hn := hnw id r hr
  obtain ⟨hw, lA⟩ := kH.1 hr
  simp only [app] at lA hw
  rw [A6 hn] at lA
  exact kH.2 ⟨fun k hk => hw k (oX.2 (.inr hk)), lA⟩
 have auL : (if bj = true then yn E (c0 + rk E ops.toList j) oj.dst oj.op (aR st.f) (eG md ops.toList j st.wl st.rows) vj uj else vj = .fH [] ∧ uj = none) ∧
   (bj = true → ∀ id ∈ iM oj.op (aR st.f), ∃ r, eG md ops.toList j (app i oi bi vi ui st).wl (app i oi bi vi ui st).rows id = some r) ∧ (∀ id r, uj = some (id, r) → bj = true ∧ ((dK E oj.op = true ∧ id = oj.dst.getD 0) ∨ id ∈ iM oj.op (aR st.f))) := by
  by_cases hb : bj = true
  ·rw [if_pos hb] at hyj ⊢
   have aep := (J8 ej).1 hyj
   obtain ⟨g1, g2, g3⟩ := SX (hle _) aep
   exact ⟨g1, fun _ => g2, fun id r hu => ⟨hb, g3 id r hu⟩⟩
  ·rw [if_neg hb] at hyj ⊢
   exact ⟨hyj, fun h => absurd h hb, fun id r hu => by rw [hyj.2] at hu; cases hu⟩
 obtain ⟨auM, aep, auN⟩ := auL
 have auO : VZ md ops.toList j uj st.bS := G8.2 fun id r hu k hk => hoj id r hu k (.inr hk)
 have hfi : ∀ id r, uj = some (id, r) → ¬ (bi = true ∧ id ∈ iM oi.op (aR st.f)) := by
  intro id r hu hh
  have := hoj id r hu i (.inl ⟨hh.1, rfl, hh.2⟩)
  rw [hdj] at this; cases this
 have hui : ∀ id r, ui = some (id, r) → bi = true ∧ ((dK E oi.op = true ∧ id = oi.dst.getD 0) ∨ id ∈ iM oi.op (aR st.f)) := by
  intro id r hu
  by_cases hb : bi = true
  ·rw [if_pos hb] at V0
   exact ⟨hb, (SX (rows' := eG md ops.toList i st.wl st.rows) (fun id _ r hr => hr) V0).2.2 id r hu⟩
  ·rw [if_neg hb] at V0
   rw [V0.2] at hu; cases hu
 have nZ : ∀ id r r', ui = some (id, r) → uj = some (id, r') → False := by
  intro id r r' hu1 hu2
  obtain ⟨hb, hh⟩ := auN id r' hu2
  rcases hh with hh | hh
  ·obtain ⟨J7, hh1⟩ := hui id r hu1
   rcases hh1 with hh1 | hh1
   ·obtain ⟨d, hd⟩ := Option.isSome_iff_exists.1 (hds hh1.1)
    have e1 : id = d := by rw [hh1.2, hd]; rfl
    cases ajd : oj.dst with
    | none => exact absurd ajd (fun he => by have := auJ hh.1; rw [he] at this; cases this)
    | some d' =>
     have e2 : id = d' := by rw [hh.2, ajd]; rfl
     exact h2 d hd (by rw [ajd, ← e2, e1])
   ·exact hfi id r' hu2 ⟨J7, hh1⟩
  ·obtain ⟨r'', auP⟩ := aep hb id hh
   exact hnw id r'' auP r hu1
 have auQ : bi = true → jQ (iM oi.op (aR st.f)) (eG md ops.toList i st.wl st.rows) (eG md ops.toList i (app j oj bj vj uj st).wl (app j oj bj vj uj st).rows) := by
  intro hb id iI r hr
  obtain ⟨hw, lA⟩ := kH.1 hr
  have hn : ∀ r', uj ≠ some (id, r') := fun r' hu => hfi id r' hu ⟨hb, iI⟩
  refine kH.2 ⟨fun k hk => ?_, ?_⟩
  ·rcases oX.1 hk with ⟨_, r', hu⟩ | hk
   ·exact absurd hu (hn r')
   ·exact hw k hk
  ·simp only [app]; rw [A6 hn]; exact lA
 refine ⟨bj, vj, uj, ⟨auK, auM⟩, auO, ⟨(SZ h3).2 hgi, ?_⟩, ?_, ?_⟩
 ·by_cases hb : bi = true
  ·rw [if_pos hb] at V0 ⊢
   refine (J8 ei).2 ?_
   exact (SX (auQ hb) V0).1
  ·rw [if_neg hb] at V0 ⊢; exact V0
 ·-- i's own row has not aAw asL
  rw [G8]
  rintro id r hu k (⟨hb, rfl, hh⟩ | hh)
  ·obtain ⟨r', lA⟩ := aep hb id hh
   exact absurd hu (hnw id r' lA r)
  ·exact ho id r hu k hh
 ·have : app i oi bi vi ui (app j oj bj vj uj st) = app j oj bj vj uj (app i oi bi vi ui st) := by
   simp only [app, ST.mk.injEq]
   refine ⟨put_comm fun d hd => fun Z4 => (h2 d) (by first | exact hd | exact Z4) (by first | exact Z4 | exact hd), ?_, ?_, ?_⟩
   ·cases ui with
    | none => rfl
    | some x =>
     cases uj with
     | none => rfl
     | some y =>
      obtain ⟨id, r⟩ := x
      obtain ⟨jL, r'⟩ := y
      have : id ≠ jL := fun e => nZ id r r' rfl (by rw [e])
      funext k
      simp only [gF, dZ]
      split <;> split <;> simp_all
   ·funext k id
    have e1 : iM oi.op (aR (put st.f oj.dst vj)) = iM oi.op (aR st.f) := A5 ei
    have e2 : iM oj.op (aR (put st.f oi.dst vi)) = iM oj.op (aR st.f) := A5 ej
    rw [e1, e2]
    apply propext
    constructor
    ·rintro (h | h | h)
     ·exact .inr (.inl h)
     ·exact .inl h
     ·exact .inr (.inr h)
    ·rintro (h | h | h)
     ·exact .inr (.inl h)
     ·exact .inl h
     ·exact .inr (.inr h)
   ·funext k id
    apply propext
    rw [oX, oX, oX, oX]
    constructor
    ·rintro (h | h | h)
     ·exact .inr (.inl h)
     ·exact .inl h
     ·exact .inr (.inr h)
    ·rintro (h | h | h)
     ·exact .inr (.inl h)
     ·exact .inl h
     ·exact .inr (.inr h)
  rw [this]; exact hK
theorem KA {j k : Nat} : VY md ops.toList j k = true ↔ ∃ oj, ops[j]? = some oj ∧ ∃ e ∈ oj.after, Region.binds md e = true ∧ e.on = k := by
 unfold VY
 cases h : ops[j]? with
 | none => simp [show ops.toList[j]? = none by simpa using h]
 | some oj =>
  rw [show ops.toList[j]? = some oj by simpa using h]
  simp only [List.any_eq_true, Bool.and_eq_true, beq_iff_eq, Option.some.injEq]
  constructor
  ·rintro ⟨e, he, h1, h2⟩; exact ⟨oj, rfl, e, by simpa using he, h1, h2⟩
  ·rintro ⟨_, rfl, e, he, h1, h2⟩; exact ⟨e, by simpa using he, h1, h2⟩
theorem aeq {n j i : Nat} {oj : Oper} {a8 : Array Bool} (hj : ops[j]? = some oj) (inv : HeadInv md ops n a8) (hr : ∀ e ∈ oj.after, Region.binds md e = true → a8.getD e.on false = true) (N6 : a8.getD i false = false) : oW md ops.toList j i = false := by
 have one : ∀ k, VY md ops.toList j k = true → a8.getD k false = true := fun k hk => by
  obtain ⟨o, ho, e, he, h1, rfl⟩ := KA.1 hk
  rw [hj] at ho; cases ho
  exact hr e he h1
 cases hd : oW md ops.toList j i with
 | false => rfl
 | true =>
  exfalso
  unfold oW at hd
  rcases Bool.or_eq_true_iff.1 hd with h | h
  ·rw [one i h] at N6; cases N6
  ·obtain ⟨k, _, hk⟩ := List.any_eq_true.1 h
   obtain ⟨h1, h2⟩ := Bool.and_eq_true_iff.1 hk
   obtain ⟨o, ho, e, he, h3, rfl⟩ := KA.1 h2
   rw [inv.closed k o ho (one k h1) e he h3] at N6; cases N6
end
section
variable {E : Env} {ops : Array Oper} {md : Region.Mode}
def KB (E : Env) (md : Region.Mode) (ops : Array Oper) (c0 n : Nat) (L : Array Bool → ST → Prop) : Nat → Array Bool → ST → Prop
 | 0, a8, st => L a8 st
 | f + 1, a8, st => Region.ready md ops a8 ≠ [] ∧ ∀ i ∈ Region.ready md ops a8, i < n ∧ Z0 E md ops c0 i (KB E md ops c0 n L f (a8.setIfInBounds i true)) st
theorem KC {c0 n i : Nat} {oi : Oper} {b : Bool} {v : PV} {u : Option (Nat × Row)} {L : Array Bool → ST → Prop} (hi : ops[i]? = some oi) (oU : ∀ i oi, i < n → ops[i]? = some oi → dK E oi.op = true → oi.dst.isSome = true)
  (A7 : ∀ a8, HeadInv md ops n a8 → ∀ i, i < n → a8.getD i true = false → ∀ t, n ≤ t → t ∉ Region.ready md ops a8) (hin : i < n)
  (aoP : ∀ a8 st, L a8 st → ∀ j ∈ Region.ready md ops a8, n ≤ j) :
  ∀ (f : Nat) (a8 : Array Bool) (st : ST), HeadInv md ops n a8 →
   (∀ j oj, ops[j]? = some oj → j ≠ i → a8.getD j true = false → (∀ e ∈ oj.after, Region.binds md e = true → e.on ≠ i) → oi.apart ops oj = true) →
   i ∈ Region.ready md ops a8 → YG E md ops c0 i oi b v u st → VZ md ops.toList i u st.bS →
   KB E md ops c0 n L f (a8.setIfInBounds i true) (app i oi b v u st) → KB E md ops c0 n L (f + 1) a8 st := by
 intro f
 induction f with
 | zero =>
  intro a8 st inv _ hr hy ho H
  have N6 := (mem_ready.1 hr).1
  refine ⟨fun h => (by rw [h] at hr; cases hr), fun j hj => ?_⟩
  have hjn : j < n := by
   rcases Nat.lt_or_ge j n with h | h
   ·exact h
   ·exact absurd hj (A7 a8 inv i hin N6 j h)
  refine ⟨hjn, ?_⟩
  by_cases hji : j = i
  ·subst hji; unfold Z0; simp only [hi]; exact ⟨b, v, u, hy, ho, H⟩
  ·have := aoP _ _ H j (ready_mono hj hji)
   omega
 | succ f ih =>
  intro a8 st inv ag4 hr hy ho H
  have N6 := (mem_ready.1 hr).1
  refine ⟨fun h => (by rw [h] at hr; cases hr), fun j hj => ?_⟩
  have hjn : j < n := by
   rcases Nat.lt_or_ge j n with h | h
   ·exact h
   ·exact absurd hj (A7 a8 inv i hin N6 j h)
  refine ⟨hjn, ?_⟩
  by_cases hji : j = i
  ·subst hji; unfold Z0; simp only [hi]; exact ⟨b, v, u, hy, ho, H⟩
  ·have h1 := (H.2 j (ready_mono hj hji)).2
   obtain ⟨aoR, oj, hoj, tP⟩ := mem_ready.1 hj
   have aje : ∀ e ∈ oj.after, Region.binds md e = true → e.on ≠ i := fun e he hb heq => by
    have h1 := tP e he hb
    rw [heq, getD_both N6] at h1
    cases h1
   have h2 := aeo hoj (ag4 j oj hoj hji aoR aje) (oU i oi hin hi) (oU j oj hjn hoj) (aeq hoj inv tP (getD_both N6)) hy ho h1
   have ajf : ∀ k ok, ops[k]? = some ok → k ≠ i → (a8.setIfInBounds j true).getD k true = false →
     (∀ e ∈ ok.after, Region.binds md e = true → e.on ≠ i) → oi.apart ops ok = true := fun k ok hk hki aoS Y2 => by
    refine ag4 k ok hk hki ?_ Y2
    by_cases hjk : j = k
    ·subst hjk; exact aoR
    ·rw [getD_set_ne true hjk] at aoS; exact aoS
   refine Z2 (fun S2 h3 => ih (a8.setIfInBounds j true) S2 (inv.set hj hjn) ajf (ready_mono hr (Ne.symm hji)) h3.1 h3.2.1 ?_) h2
   rw [Array.setIfInBounds_comm _ _ hji]
   exact h3.2.2
def ajg (E : Env) (md : Region.Mode) (ops : Array Oper) (c0 : Nat) (Lq : ST → Prop) : Nat → List Oper → ST → Prop
 | _, [], st => Lq st
 | k, o :: os, st => ∃ b v u, YG E md ops c0 k o b v u st ∧ VZ md ops.toList k u st.bS ∧ ajg E md ops c0 Lq (k + 1) os (app k o b v u st)
theorem rQ {c0 n g : Nat} {Lq : ST → Prop} (oU : ∀ i oi, i < n → ops[i]? = some oi → dK E oi.op = true → oi.dst.isSome = true) (A7 : ∀ a8, HeadInv md ops n a8 → ∀ i, i < n → a8.getD i true = false → ∀ t, n ≤ t → t ∉ Region.ready md ops a8) :
  ∀ (l : List Oper) (k : Nat) (a8 : Array Bool) (st : ST), (∀ j, j < l.length → l[j]? = ops[k + j]?) → k + l.length = n → HeadInv md ops n a8 →
  Region.lexHead md ops g l.length k a8 = true → ajg E md ops c0 Lq k l st →
  KB E md ops c0 n (fun S3 S2 => Region.seqB md ops g n S3 = true ∧ Lq S2) l.length a8 st
 | [], k, a8, st, _, hk, _, hB, h => by
  have : k = n := by simpa using hk
  subst this
  exact ⟨by simpa [Region.lexHead] using hB, h⟩
 | o :: l, k, a8, st, hl, hk, inv, hB, h => by
  have h0 : ops[k]? = some o := by simpa using (hl 0 (by simp)).symm
  simp only [List.length_cons, Region.lexHead, Bool.and_eq_true] at hB
  obtain ⟨⟨hr, hf⟩, hB'⟩ := hB
  have hkn : k < n := by simp only [List.length_cons] at hk; omega
  have lA : k ∈ Region.ready md ops a8 := by simpa using hr
  obtain ⟨b, v, u, hy, ho, hK⟩ := h
  exact KC h0 oU A7 hkn (fun S3 S2 hL => seqB_ready hL.1) l.length a8 st inv (Region.free_spec h0 hf) lA hy ho
   (rQ oU A7 l (k + 1) _ _ (fun j hj => by have := hl (j + 1) (by simp; omega); simpa [Nat.add_assoc, Nat.add_comm 1 j] using this) (by simp only [List.length_cons] at hk; omega) (inv.set lA hkn) hB' hK)
variable {w0 : World} {S0 : dW} {m : Nat} {G : Gs}
theorem OZ {o : Oper} {a : Act} {w : World} {f : Nat → PV} {rows : Rows} {U : Nat → Prop} {c0 : Nat} {v : PV} {u : Option (Nat × Row)} (SS : ¬ U c0) {g : FuncId} {aDY : Array Operand} {ts : Array TypeId} (ho : o.op = .call { callee := .value (.func g), args := aDY, argTypes := ts })
  (hy : ag1 E g (aDY.toList.map fun x => aR f x) c0 (o.dst.getD 0) v u) (hR : oV w0 S0 m G U f rows a w) (hd : ∀ t, o.dst = some t → t < m)
  {K' : Act → World → Prop} {Q : Exit → Act → World → Prop} (hK : ∀ a' w', oV w0 S0 m G (fun v => v = c0 ∨ U v) (put f o.dst v) (gF rows u) a' w' → K' a' w') : o.wp E.P a w K' Q := by
 obtain ⟨⟨c, rfl, hr, fX, hI, hf, hG⟩, hn, fM⟩ := hR
 have hρ := l8 hf
 have hfu : ¬ c.used c0 := fun hu => SS (fX _ hu)
 obtain ⟨sX, e, n, els, ⟨⟨fn, b, h1, h2, h3⟩, OU⟩, rfl, rfl⟩ := hy
 obtain ⟨dst, op, type, pos, after, guard⟩ := o
 simp only at ho hd hK
 subst ho
 have gB : bB (aJ c) (aDY.toList.map fun x => aR f x) (aDY.map a.eval).toList := by
  refine bB.dN (by simp) fun k p u hp hu => ?_
  simp at hp hu
  obtain ⟨x, hx, rfl⟩ := hp
  obtain ⟨y, hy, rfl⟩ := hu
  rw [hx] at hy; cases hy
  exact hρ x
 have gE : bM c.S c.w (aDY.toList.map fun x => aR f x) (aDY.map a.eval).toList := cU.2 (bB.dN gB.length fun k p u hp hu => by
  obtain ⟨u', q1, q2⟩ := gB.get hp
  rw [hu] at q1; cases q1
  exact q2.rep (List.all_eq_true.1 sX p (List.mem_of_getElem? hp)))
 have qH := OU c.w c.S _ (fun b o hb => hI.lt hb) gE
 simp only [Array.toArray_toList] at qH
 have hfo := hρ (.func g)
 simp only [aR, aJ, aQ, c9] at hfo
 obtain ⟨cs, hfv, JR⟩ := hfo
 simp only [bM] at JR
 subst JR
 unfold Oper.wp
 have jP : (execOp a.eval { dst := dst, op := .call { callee := .value (.func g), args := aDY, argTypes := ts }, type := type, pos := pos, after := after, guard := guard }).run E.P c.w = .ok (.enter g (aDY.map a.eval)) c.w := by
  simp only [execOp, resolve, hfv, Deferred.ofValue, Sem.run_bind, Sem.run_pure, Result.andThen_ok, invoke]
  simpa using mL h1 h2 h3 (aDY.map a.eval) c.w
 rw [jP]
 refine qH.mono ?_
 rintro x w' ⟨v', xs, S', rfl, hb, g1, g2, g3, g4, g5, g6, g7, g8⟩
 obtain ⟨hI2, hA2⟩ := hI.grow hb g1 g2
 obtain ⟨hI3, hA3⟩ := hI2.set (w' := w') (ob := v'.ownBlock) (id := dst.getD 0) (r' := ⟨c0, e, n, els⟩) (v' := v') (xs := xs) (World.grownBy.refl _ _)
  (fun g hg => by
   have SJ := (g3.lt g hg).1
   refine ⟨by have := hI.below.size; omega, fun o => g8 g o hg, fun jL r hr _ D3 => ?_⟩
   obtain ⟨⟨ys, q1, _, _⟩, _⟩ := hI.row jL r hr
   have := (q1.lt g D3).2
   omega) ⟨g3.1, g3.2.imp id fun ⟨g, cap, cur, q1, q2, q3⟩ => ⟨g, cap, cur, q1, Nat.le_trans hI.below.size q2, q3⟩⟩ (g4.mono fun _ _ h => aQ.jO h) g5 g6 g7 (fun g hg => .inl hg) hfu
 refine hK _ _ ?_
 have hf2 : ∀ s, aJ { c with S := S', w := w' } (f s) (a.tmps.getD s undef) := fun s => aJ.tG hA2 _ _ (hf s)
 have hG2 : ∀ p ∈ G, aJ { c with S := S', w := w' } p.1 p.2 := fun p hp => aJ.tG hA2 _ _ (hG p hp)
 refine oH hf2 hG2 hn fM hA3 hI3 ?_ hd rfl (by simp [gF, hr]) (fun v hv => hv.imp (fun h => h) (fX v))
 rcases g3.2 with ⟨rfl, h8⟩ | ⟨g, kD, cur, rfl, _⟩
 ·have : els.length = 0 := h8
  rw [this]
  exact lC (r := ⟨c0, e, n, els⟩) (A := none) (cap := 0) (by simp [dZ]) (by simpa using h8) (Or.inl rfl) (by simp [dZ])
 ·exact lC (r := ⟨c0, e, n, els⟩) (by simp [dZ]) rfl (Or.inl rfl) (by simp [dZ])
theorem Z5 {o : Oper} {a : Act} {w : World} {f : Nat → PV} {rows : Rows} {U : Nat → Prop} {c0 : Nat} {v : PV} {u : Option (Nat × Row)} (SS : ¬ U c0) (hn : dK E o.op = true) (hy : yn E c0 o.dst o.op (aR f) rows v u) (hR : oV w0 S0 m G U f rows a w) (hd : ∀ t, o.dst = some t → t < m)
  {K' : Act → World → Prop} {Q : Exit → Act → World → Prop} (hK : ∀ a' w', oV w0 S0 m G (fun v => v = c0 ∨ U v) (put f o.dst v) (gF rows u) a' w' → K' a' w') : o.wp E.P a w K' Q := by
 by_cases qH : ∃ g aDY ts, o.op = .call { callee := .value (.func g), args := aDY, argTypes := ts } ∧ E.writes g = true
 ·obtain ⟨g, aDY, ts, ho, hw⟩ := qH
  rw [ho] at hy
  simp only [yn] at hy
  rw [if_pos hw] at hy
  exact OZ SS ho hy hR hd hK
 refine u4 (ver := c0) SS (K := fun _ f' rows' => f' = put f o.dst v ∧ rows' = gF rows u) ?_ hR hd (fun i f' rows' a' w' h lE => by
  obtain ⟨rfl, rfl⟩ := h
  exact hK a' w' (lE.mono fun v hv => hv.imp (fun h => h.2) fun h => h))
 obtain ⟨dst, op, type, pos, after, guard⟩ := o
 simp only at hn hy qH ⊢
 refine m9 hn ?_ ?_ ?_ ?_ ?_
 ·rintro t rfl
  simp only [yn] at hy
  obtain ⟨h2, rfl, rfl⟩ := hy
  exact ⟨h2, rfl, rfl⟩
 ·rintro t x rfl
  simp only [yn] at hy
  obtain ⟨h2, l, h3, h4, h5, rfl, rfl⟩ := hy
  exact ⟨h2, l, h3, fun q hq => G7 (fun id _ r hr => by cases hr) (h4 q hq), h5, rfl, rfl⟩
 ·rintro t l cc rfl
  simp only [yn] at hy
  simp only [n6]
  split at hy
  ·rename_i e n b z k1 x k2 y hE hl hc
   obtain ⟨g1, g2, g3, g4, rfl, rfl⟩ := hy
   try rw [hE, hl, hc]
   exact ⟨g1, g2, g3, g4, rfl, rfl⟩
  ·exact hy.elim
 ·rintro x y t t2 rfl
  simp only [yn] at hy
  obtain ⟨h2, hy⟩ := hy
  simp only [n6]
  refine ⟨h2, ?_⟩
  unfold qI at hy
  unfold oI
  split at hy
  ·rename_i e n b z hE
   obtain ⟨l, g1, g2, g3⟩ := hy
   rw [hE]
   refine ⟨l, g1, g2, ?_⟩
   split at g3
   ·rename_i hx
    obtain ⟨q1, q2, rfl, rfl⟩ := g3
    rw [hx]
    exact ⟨q1, q2, rfl, rfl⟩
   ·rename_i id ver off len hx
    obtain ⟨r, q1, q2, q3, q4, q5, q6, q7, q8, rfl, rfl⟩ := g3
    rw [hx]
    exact ⟨r, q1, q2, q3, q4, q5, q6, q7, q8, rfl, rfl⟩
   ·exact g3.elim
  ·exact hy.elim
 ·rintro g aDY ts rfl hw
  exact absurd ⟨g, aDY, ts, rfl, hw⟩ qH
theorem V1 {c0 i : Nat} {st : ST} {K : ST → Prop} {U : Nat → Prop} (SS : ∀ o, ops[i]? = some o → dK E o.op = true → ¬ U (c0 + rk E ops.toList i)) (h : Z0 E md ops c0 i K st) {a : Act} {w : World} (hR : oV w0 S0 m G U st.f st.rows a w) (hd : ∀ o, o ∈ ops → ∀ t, o.dst = some t → t < m)
  {K' : Act → World → Prop} {Q : Exit → Act → World → Prop} (hK : ∀ S2 a' w', K S2 → oV w0 S0 m G (fun v => (v = c0 + rk E ops.toList i ∧ ∃ o, ops[i]? = some o ∧ dK E o.op = true) ∨ U v) S2.f S2.rows a' w' → K' a' w') : wpOp E.P ops Q i K' a w := by
 unfold Z0 at h
 unfold wpOp
 split at h
 ·rename_i hi; simp only [hi]; exact hK _ _ _ h (hR.mono fun v hv => .inr hv)
 ·rename_i o hi
  simp only [hi]
  obtain ⟨b, v, u, ⟨hg, hy⟩, ho, hk⟩ := h
  have lE := hR
  obtain ⟨⟨c, rfl, hr, fX, hI, hf, hG⟩, hn, fM⟩ := hR
  have hdo := hd o (Array.mem_of_getElem? hi)
  have ag5 : Region.wanted o (yielded ops a.tmps) = b := by
   unfold gOK at hg
   unfold Region.wanted
   cases hgd : o.guard with
   | none => rw [hgd] at hg; simp only at hg ⊢; exact hg.symm
   | some x =>
    obtain ⟨j, want⟩ := x
    rw [hgd] at hg
    simp only at hg ⊢
    obtain ⟨d, h1, h2⟩ := hg
    have hx := hf d
    rcases h2 with ⟨h2, h3⟩ | ⟨h2 | h2, h3⟩
    ·rw [h2] at hx
     rw [iE h1 hx, h3]
     cases want <;> rfl
    ·rw [h2] at hx
     rw [iE h1 hx, h3]
     cases want <;> rfl
    ·rw [h2] at hx
     rw [tO h1 hx, h3]
     rfl
  by_cases hb : b = true
  ·subst hb
   rw [if_pos rfl] at hy
   rw [ag5, if_pos rfl]
   left
   cases oU : dK E o.op with
   | true =>
    refine Z5 (SS o hi oU) oU (SX (fun id _ r lA => (kH.1 lA).2) hy).1 lE hdo fun a' w' hR2 => hK _ _ _ hk ?_
    exact hR2.mono fun v hv => hv.imp (fun h => ⟨h, o, by first | exact hi | rfl, oU⟩) fun h => h
   | false =>
    rw [AZ oU] at hy
    have N5 : ys E o.op (aR st.f) c.rows v u := by
     rw [hr]
     exact (ag0 (fun id _ r lA => (kH.1 lA).2) hy).1
    refine J6 hI hf N5 fun v' c' h1 h2 h3 h4 h5 => hK _ _ _ hk ?_
    refine oH hf hG hn fM h3 h4 h5 hdo rfl ?_ ?_
    ·simp only [app]
     rw [h1, hr]
    ·rw [h2]
     exact fun v hv => .inr (fX v hv)
  ·rw [if_neg hb] at hy
   obtain ⟨rfl, rfl⟩ := hy
   rw [ag5, if_neg hb]
   refine hK _ _ _ hk ?_
   have D3 : b = false := by simpa using hb
   subst D3
   exact oH hf hG hn fM (tF.refl c) hI OY hdo rfl (by rw [hr]; rfl) (fun v hv => .inr (fX v hv))
def Ul (E : Env) (ops : Array Oper) (c0 n : Nat) (a8 : Array Bool) : Nat → Prop := fun v => v < c0 ∨ ∃ k o, k < n ∧ ops[k]? = some o ∧ dK E o.op = true ∧ v = c0 + rk E ops.toList k ∧ a8.getD k false = true
theorem O0 {c0 n v : Nat} {a8 : Array Bool} (h : Ul E ops c0 n a8 v) : v < c0 + rk E ops.toList n := by
 rcases h with h | ⟨k, o, hk, ho, hn, rfl, _⟩
 ·omega
 ·have := ZW (ops := ops.toList) (by simpa using ho) hn hk
  omega
theorem kY {c0 n g : Nat} {L : Array Bool → ST → Prop} {Q : Exit → Act → World → Prop} (hd : ∀ o, o ∈ ops → ∀ t, o.dst = some t → t < m)
  (hL : ∀ a8 (st : ST) a w, L a8 st → oV w0 S0 m G (Ul E ops c0 n a8) st.f st.rows a w → wpAny E.P md ops Q g a8 a w) :
  ∀ (f : Nat) (a8 : Array Bool) (st : ST) (a : Act) (w : World), n ≤ a8.size → KB E md ops c0 n L f a8 st → oV w0 S0 m G (Ul E ops c0 n a8) st.f st.rows a w → wpAny E.P md ops Q (f + g) a8 a w
 | 0, a8, st, a, w, _, h, hR => by rw [Nat.zero_add]; exact hL _ _ _ _ h hR
 | f + 1, a8, st, a, w, oG, h, hR => by
  rw [show f + 1 + g = (f + g) + 1 by omega]
  refine ⟨fun h0 => absurd h0 h.1, fun i hi => ?_⟩
  have N6 := (mem_ready.1 hi).1
  obtain ⟨hin, hq⟩ := h.2 i hi
  refine V1 (fun o ho hn hU => ?_) hq hR hd fun S2 a' w' h' lE => kY hd hL f _ S2 a' w' (by simpa using oG) h' (lE.mono fun v hv => ?_)
  ·rcases hU with hU | ⟨k, o', hk, ho', yG, he, hl⟩
   ·omega
   ·have := ai9 (ops := ops.toList) (by simpa using ho) hn (by simpa using ho') yG (by omega)
    subst this
    rw [getD_both N6] at hl; cases hl
  ·rcases hv with ⟨rfl, o, ho, hn⟩ | hv
   ·exact .inr ⟨i, o, hin, ho, hn, rfl, by simp [show i < a8.size by omega]⟩
   ·rcases hv with hv | ⟨k, o, hk, ho, hn, he, hl⟩
    ·exact .inl hv
    ·refine .inr ⟨k, o, hk, ho, hn, he, ?_⟩
     by_cases hki : i = k
     ·subst hki; simp [show i < a8.size by omega]
     ·simpa [Array.getElem?_setIfInBounds_ne hki] using hl
end
def aM (E : Env) (ops : List Oper) : List Oper → (PS → Prop) → PS → Prop
 | [], K, σ => K σ
 | o :: os, K, σ =>
  match o.guard with
  | none => eQ E o (aM E ops os K) σ
  | some (j, want) =>
   match (ops[j]?).bind (·.dst) with
   | none => False
   | some d => (σ.f d = .bool want ∧ eQ E o (aM E ops os K) σ) ∨ ((σ.f d = .bool (!want) ∨ σ.f d = .fH []) ∧ aM E ops os K (σ.put o.dst (.fH [])))
def aO (E : Env) (ops : List Oper) (clk : Nat) : Nat → List Oper → (PS → Prop) → ST → Prop
 | _, [], K, st => K ⟨st.f, st.rows, clk⟩
 | k, o :: os, K, st =>
  match o.guard with
  | none => ∃ v u, yn E clk o.dst o.op (aR st.f) (eG .any ops k st.wl st.rows) v u ∧ VZ .any ops k u st.bS ∧ aO E ops (iN E o.op clk) (k + 1) os K (app k o true v u st)
  | some (j, want) =>
   match (ops[j]?).bind (·.dst) with
   | none => False
   | some d => (st.f d = .bool want ∧ ∃ v u, yn E clk o.dst o.op (aR st.f) (eG .any ops k st.wl st.rows) v u ∧ VZ .any ops k u st.bS ∧ aO E ops (iN E o.op clk) (k + 1) os K (app k o true v u st)) ∨ ((st.f d = .bool (!want) ∨ st.f d = .fH []) ∧ aO E ops clk (k + 1) os K (app k o false (.fH []) none st))
def gQ (E : Env) (tl : Nat) (ops : List Oper) (K : PS → Prop) (σ : PS) : Prop :=
 if tl = 0 then aO E ops σ.clock 0 ops K ⟨σ.f, σ.rows, fun _ _ => False, fun _ _ => False⟩
 else aO E ops σ.clock 0 (ops.take (ops.length - tl)) (aM E ops (ops.drop (ops.length - tl)) K) ⟨σ.f, σ.rows, fun _ _ => False, fun _ _ => False⟩
inductive PX where
 | normal
 | exit (id : Nat)
 | ret
def D8 (K : PS → Prop) (Q : PX → PS → Prop) : PX → PS → Prop
 | .normal, σ => K σ
 | .exit id, σ => Q (.exit id) σ
 | .ret, σ => Q .ret σ
def D9 (id : Nat) (Q : PX → PS → Prop) : PX → PS → Prop
 | .normal, σ => Q .normal σ
 | .exit j, σ => if j = id then Q .normal σ else Q (.exit j) σ
 | .ret, σ => Q .ret σ
def qJ (E : Env) (n tl : Nat) (ops : Array Oper) (draw : Bool) : Bool :=
 (ops.all fun o => match o.dst with | some d => decide (d < n) | none => true) &&
 (!draw || (tN E (if tl = 0 then ops.toList else ops.toList.take (ops.size - tl)) && (if tl = 0 then Region.noSelect ops && Region.lexHead .any ops 0 ops.size 0 (Array.replicate ops.size false) else decide (tl ≤ ops.size) && Region.lexTailB .any ops (ops.size - tl))))
def eS (E : Env) (n : Nat) (tl : Nat → Nat) : Code → Bool
 | .region id ops draw => qJ E n (tl id) ops draw
 | .seq a b => eS E n tl a && eS E n tl b
 | .cond _ t e => eS E n tl t && eS E n tl e
 | .block _ c => eS E n tl c
 | .loop c => eS E n tl c
 | _ => true
section
variable {E : Env} {w0 : World} {S0 : dW} {n : Nat} {G : Gs}
theorem gV {ops : Array Oper} {K : PS → Prop} {Q : Exit → Act → World → Prop} (hK : ∀ σ' a' w', K σ' → Rel w0 S0 n G σ' a' w' → Q .normal a' w') :
  ∀ (l : List Oper) (σ : PS) (a : Act) (w : World), (∀ o ∈ l, ∀ t, o.dst = some t → t < n) → aM E ops.toList l K σ → Rel w0 S0 n G σ a w → wpList E.P ops Q l a w
 | [], σ, a, w, _, h, hR => hK _ _ _ h hR
 | o :: os, σ, a, w, hd, h, hR => by
  have hdo := hd o (by simp)
  have hds : ∀ o ∈ os, ∀ t, o.dst = some t → t < n := fun o ho => hd o (by simp [ho])
  have wanted : ∀ {σ}, eQ E o (aM E ops.toList os K) σ → Rel w0 S0 n G σ a w → o.wp E.P a w (wpList E.P ops Q os) Q := fun hp hR =>
   yH hp hR hdo fun σ' a' w' hk lE => gV hK os σ' a' w' hds hk lE
  unfold wpList
  simp only [aM] at h
  split at h
  ·rename_i hg
   rw [if_pos (by simp [Region.wanted, hg])]
   exact .inl (wanted h hR)
  ·rename_i j want hg
   split at h
   ·exact h.elim
   ·rename_i d O1
    have hd3 : (ops[j]?).bind (·.dst) = some d := by simpa using O1
    have skip : yielded ops a.tmps j ≠ some want → aM E ops.toList os K (σ.put o.dst (.fH [])) → (if Region.wanted o (yielded ops a.tmps) = true then o.wp E.P a w (wpList E.P ops Q os) Q ∨ (o.asks E.P a w ∧ LetsOut Q) else wpList E.P ops Q os (a.put o.dst undef) w) := by
     intro hy h2
     rw [if_neg (by simpa [Region.wanted, hg] using hy)]
     refine gV hK os _ _ w hds h2 ?_
     obtain ⟨⟨c, rfl, hr, fX, hI, hf, hG⟩, hn, fM⟩ := hR
     exact m7 hf hG hn fM (tF.refl c) hI OY hdo rfl (by simp [PS.put, hr]) fX
    obtain ⟨c, _, _, _, _, hf, _⟩ := hR.ex
    have hx := hf d
    rcases h with ⟨h1, h2⟩ | ⟨h1 | h1, h2⟩
    ·rw [h1] at hx
     rw [if_pos (by simp [Region.wanted, hg, iE hd3 hx])]
     exact .inl (wanted h2 hR)
    ·rw [h1] at hx
     exact skip (by rw [iE hd3 hx]; cases want <;> simp) h2
    ·rw [h1] at hx
     exact skip (by rw [tO hd3 hx]; simp) h2
theorem oJ {ops : Array Oper} {c0 : Nat} {K : PS → Prop} : ∀ (l : List Oper) (k clk : Nat) (st : ST), (∀ j, j < l.length → l[j]? = ops[k + j]?) → tN E l = true → clk = c0 + rk E ops.toList k → aO E ops.toList clk k l K st → ajg E .any ops c0 (fun st => K ⟨st.f, st.rows, c0 + rk E ops.toList (k + l.length)⟩) k l st
 | [], k, clk, st, _, _, hc, h => by subst hc; exact h
 | o :: os, k, clk, st, hl, KE, hc, h => by
  have aji : tN E os = true := by simp only [tN, List.all_cons, Bool.and_eq_true] at KE ⊢; exact KE.2
  have auT : o.guard ≠ none → dK E o.op = false := fun hg => by
   simp only [tN, List.all_cons, Bool.and_eq_true] at KE
   cases hn : dK E o.op with
   | false => rfl
   | true => have := KE.1; rw [hn] at this; simp at this; exact absurd this.2 hg
  have h0 : ops[k]? = some o := by simpa using (hl 0 (by simp)).symm
  have u0 : iN E o.op clk = c0 + rk E ops.toList (k + 1) := by rw [hc]; exact aen (by simpa using h0)
  have SU : ∀ j, j < os.length → os[j]? = ops[k + 1 + j]? := fun j hj => by have := hl (j + 1) (by simp; omega); simpa [Nat.add_assoc, Nat.add_comm 1 j] using this
  have e1 : k + (o :: os).length = k + 1 + os.length := by simp only [List.length_cons]; omega
  rw [e1]
  simp only [aO] at h
  split at h
  ·rename_i hg
   obtain ⟨v, u, h1, h2, h3⟩ := h
   exact ⟨true, v, u, ⟨by simp [gOK, hg], by rw [if_pos rfl, ← hc]; exact h1⟩, h2, oJ os _ _ _ SU aji u0 h3⟩
  ·rename_i j want hg
   split at h
   ·exact h.elim
   ·rename_i d O1
    have hd3 : (ops[j]?).bind (·.dst) = some d := by simpa using O1
    rcases h with ⟨h1, v, u, q1, q2, q3⟩ | ⟨h1, h2⟩
    ·exact ⟨true, v, u, ⟨by simp only [gOK, hg]; exact ⟨d, hd3, .inl ⟨h1, trivial⟩⟩, by rw [if_pos rfl, ← hc]; exact q1⟩, q2, oJ os _ _ _ SU aji u0 q3⟩
    ·exact ⟨false, .fH [], none, ⟨by simp only [gOK, hg]; exact ⟨d, hd3, .inr ⟨h1, trivial⟩⟩, by simp⟩, trivial, oJ os _ _ _ SU aji (by rw [← u0, A4 (auT (by rw [hg]; simp))]) h2⟩
theorem Rel.drew {σ : PS} {a : Act} {w : World} (h : Rel w0 S0 n G σ a w) : Rel w0 S0 n G σ a { w with drawn := w.drawn + 1 } := by
 obtain ⟨⟨c, rfl, hr, fX, hI, hf, hG⟩, hn, fM⟩ := h
 obtain ⟨wQ, hA⟩ := hI.grow (w' := { c.w with drawn := c.w.drawn + 1 }) (S' := c.S) ⟨rfl, rfl, rfl, Nat.le_refl _, fun _ _ => rfl⟩ (fun _ _ h => h) (fun _ _ h => .inl h)
 exact ⟨⟨{ c with w := { c.w with drawn := c.w.drawn + 1 } }, rfl, hr, fX, wQ, fun s => aJ.tG hA _ _ (hf s), fun p hp => aJ.tG hA _ _ (hG p hp)⟩, hn, fM⟩
theorem sZ {id tl : Nat} {ops : Array Oper} {K : PS → Prop} {Q : Exit → Act → World → Prop} (gK : qJ E n tl ops true = true) {σ : PS} {a : Act} {w : World} (h : gQ E tl ops.toList K σ) (hR : Rel w0 S0 n G σ a w)
  (hK : ∀ σ' a' w', K σ' → Rel w0 S0 n G σ' a' w' → Q .normal a' w') : (Code.region id ops true).wp E.P Q a w := by
 simp only [qJ, Bool.and_eq_true, Bool.not_true, Bool.false_or] at gK
 obtain ⟨ajj, s5, gK⟩ := gK
 have hd : ∀ o, o ∈ ops → ∀ t, o.dst = some t → t < n := by
  intro o ho t ht
  have := Array.all_eq_true_iff_forall_mem.1 ajj o ho
  simpa [ht] using this
 refine wp_region_any E.mixed ?_
 have KF := hR.drew
 have hU0 : ∀ k (l : Array Bool), oV w0 S0 n G (Ul E ops σ.clock k l) σ.f σ.rows a { w with drawn := w.drawn + 1 } := fun k l => KF.mono fun v hv => .inl hv
 have aet : ∀ (l : List Oper), tN E l = true → ∀ (i : Nat) (oi : Oper), l[i]? = some oi → dK E oi.op = true → oi.dst.isSome = true := fun l h i oi hi hn => by
  have := List.all_eq_true.1 h oi (List.mem_of_getElem? hi)
  rw [hn] at this; simp at this; exact Option.isSome_iff_exists.2 (by obtain ⟨x, hx⟩ := Option.isSome_iff_exists.1 this.1; exact ⟨x, hx⟩)
 unfold gQ at h
 by_cases htl : tl = 0
 ·rw [if_pos htl] at h gK s5
  have oU : ∀ i oi, i < ops.size → ops[i]? = some oi → dK E oi.op = true → oi.dst.isSome = true := fun i oi _ hi => aet _ s5 i oi (by simpa using hi)
  simp only [Bool.and_eq_true] at gK
  have hl := oJ (c0 := σ.clock) ops.toList 0 _ _ (by simp) s5 (by simp [rk]) h
  have Z6 : HeadInv .any ops ops.size (Array.replicate ops.size false) :=
   ⟨by simp, fun j oj _ hl => (by rw [getD_replicate_false] at hl; cases hl), fun t h1 h2 => by omega⟩
  have A7 : ∀ a8, HeadInv .any ops ops.size a8 → ∀ i, i < ops.size → a8.getD i true = false → ∀ t, ops.size ≤ t → t ∉ Region.ready .any ops a8 := by
   intro a8 _ i _ _ t ht hr
   obtain ⟨_, o, ho, _⟩ := mem_ready.1 hr
   have := (Array.getElem?_eq_some_iff.1 ho).1
   omega
  have H := rQ (E := E) (md := .any) (g := 0) oU A7 ops.toList 0 _ _ (by simp) (by simp) Z6 (by simpa using gK.2) hl
  have := kY (E := E) (md := .any) (g := 0) (Q := Q) (m := n) hd (fun a8 st a' w' hL lE => by
   obtain ⟨h1, h2⟩ := hL
   exact ⟨by simpa [Region.seqB] using h1, hK _ _ _ h2 (lE.mono fun v hv => by have := O0 hv; simpa using this)⟩) _ _ _ _ _ (by simp) H (hU0 _ _)
  simpa using this
 ·rw [if_neg htl] at h gK s5
  have oU : ∀ i oi, i < ops.size - tl → ops[i]? = some oi → dK E oi.op = true → oi.dst.isSome = true := fun i oi h1 hi => aet _ s5 i oi (by rw [List.getElem?_take, if_pos h1]; simpa using hi)
  simp only [Bool.and_eq_true, decide_eq_true_eq] at gK
  obtain ⟨hle, hB⟩ := gK
  simp only [Region.lexTailB, Bool.and_eq_true, decide_eq_true_eq] at hB
  obtain ⟨⟨⟨⟨auU, yG⟩, hs⟩, hc⟩, ajk⟩ := hB
  have hlen : ops.toList.length = ops.size := by simp
  rw [hlen] at h
  have hl := oJ (c0 := σ.clock) (ops.toList.take (ops.size - tl)) 0 _ _ (fun j hj => by
   have hj' : j < ops.size - tl := by simpa using hj
   simp [hj']) s5 (by simp [rk]) h
  have Z6 : HeadInv .any ops (ops.size - tl) (Array.replicate ops.size false) :=
   ⟨by simp, fun j oj _ hl => (by rw [getD_replicate_false] at hl; cases hl), fun t _ ht => getD_in (by simpa using ht) (getD_replicate_false _ _)⟩
  have wR : (ops.toList.take (ops.size - tl)).length = ops.size - tl := by simp
  have Z7 : (ops.toList.drop (ops.size - tl)).length = ops.size - (ops.size - tl) := by simp
  have H := rQ (E := E) (md := .any) (n := ops.size - tl) (g := ops.size - (ops.size - tl)) oU (fun a8 inv i hi N6 t ht => tail_waits hs hc yG inv _ i rfl hi N6 t ht) (ops.toList.take (ops.size - tl)) 0 _ _ (fun j hj => by
   rw [wR] at hj
   simp [hj]) (by rw [wR]; simp) Z6 (by rw [wR]; exact ajk) hl
  have := kY (E := E) (md := .any) (g := ops.size - (ops.size - tl)) (Q := Q) (m := n) hd (fun a8 st a' w' hL lE => by
   obtain ⟨h1, h2⟩ := hL
   have h3 := gV (ops := ops) (Q := Q) hK (ops.toList.drop (ops.size - tl)) _ a' w' (fun o ho => hd o (by simpa using List.mem_of_mem_drop ho)) h2 (lE.mono fun v hv => by have := O0 hv; simpa using this)
   have h4 := wpAny_of_seq (md := .any) (Q' := Q) (ops.toList.drop (ops.size - tl)) (ops.size - tl) a8 a' w' (fun j => by simp [List.getElem?_drop]) (by rw [Z7]; exact h1) h3
   rwa [Z7] at h4) _ _ _ _ _ (by simp) H (hU0 _ _)
  rw [wR, show ops.size - tl + (ops.size - (ops.size - tl)) = ops.size by omega] at this
  exact this
def ajm : PX → Exit
 | .normal => .normal
 | .exit id => .exit id
 | .ret => .ret
end
def pN (E : Env) (σ : PS) : List ResultVar → (List PV → Prop) → Prop
 | [], K => K []
 | .tmp t :: rs, K => pN E σ rs fun vs => K (σ.f t :: vs)
 | .cell a t :: rs, K => ∃ v, sR E t σ.rows (σ.f a) v ∧ pN E σ rs fun vs => K (v :: vs)
def KG : List PV → PV
 | [x] => x
 | l => .fH l
def Z8 (E : Env) (rs : List ResultVar) (r : PV) (σ : PS) : Prop :=
 pN E σ rs fun vs => eF σ.rows (vs.flatMap dX) ∧ (vs.map (pz σ.rows)).all fW = true ∧ r = KG (vs.map (pz σ.rows))
def Z9 (E : Env) (rs : List ResultVar) (r : PV) : PX → PS → Prop
 | .normal, σ => Z8 E rs r σ
 | .ret, σ => Z8 E rs r σ
 | .exit _, _ => False
def E7 (args : List PV) : PS := ⟨fun s => args.getD s .undef, fun _ => none, 0⟩
section
variable {E : Env} {w0 : World} {S0 : dW} {c : Cx}
theorem rR (hI : Inv w0 S0 c) {clk : Nat} {a : Act} {f : Nat → PV} (hf : ∀ s, aJ c (f s) (a.tmps.getD s undef)) {g : ResultVar → Sem Value} (hg1 : ∀ t, g (.tmp t) = pure (a.tmps.getD t undef))
  (n4 : ∀ x t, g (.cell x t) = do loadVar t (← asAddr (a.tmps.getD x undef))) : ∀ (rs : List ResultVar) (K : List PV → Prop), pN E ⟨f, c.rows, clk⟩ rs K →
  ∃ vs us, K vs ∧ bB (aJ c) vs us ∧ (rs.mapM g : Sem (List Value)).run E.P c.w = .ok us c.w
 | [], K, h => ⟨[], [], h, trivial, by simp⟩
 | .tmp t :: rs, K, h => by
  obtain ⟨vs, us, h1, h2, h3⟩ := rR hI hf hg1 n4 rs _ h
  exact ⟨f t :: vs, a.tmps.getD t undef :: us, h1, ⟨hf t, h2⟩, by
   rw [List.mapM_cons, hg1, Sem.run_bind, Sem.run_pure, Result.andThen_ok, Sem.run_bind, h3, Result.andThen_ok, Sem.run_pure]⟩
 | .cell x t :: rs, K, h => by
  obtain ⟨v, hv, h⟩ := h
  obtain ⟨vs, us, h1, h2, h3⟩ := rR hI hf hg1 n4 rs _ h
  obtain ⟨u, hu, hr⟩ := EY hI (hf x) hv
  refine ⟨v :: vs, u :: us, h1, ⟨hr, h2⟩, ?_⟩
  have VP : (do loadVar t (← asAddr (a.tmps.getD x undef)) : Sem Value).run E.P c.w = .ok u c.w := by
   simp only [Instr.loadAt, Sem.run_bind] at hu ⊢
   cases hx : a.tmps.getD x undef with
   | pointer p =>
    cases p with
    | some ad => rw [hx] at hu; simpa [Instr.sureAddr, asAddr] using hu
    | none => rw [hx] at hu; simp [Instr.sureAddr, stuck, Result.andThen] at hu
   | _ => rw [hx] at hu; simp [Instr.sureAddr, stuck, Result.andThen] at hu
  rw [List.mapM_cons, n4]
  simp only [Sem.run_bind] at VP ⊢
  rw [VP, Result.andThen_ok, h3, Result.andThen_ok, Sem.run_pure]
theorem O2 {A8 : FuncId} {fn : Func} {code : Code} {args : List PV} {r : PV} (h1 : E.P.funcs[A8]? = some fn) (h2 : fn.body = some code) (h3 : (fn.name == "runtime.NumGoroutine") = false) (gB : args.length ≤ fn.ntmps)
  (h : ∀ (w0 : World) (S0 : dW) (a : Act) (w : World) (Q' : Exit → Act → World → Prop), Rel w0 S0 fn.ntmps Gs.none (E7 args) a w → (∀ x σ' a' w', Z9 E fn.results.toList r x σ' → Rel w0 S0 fn.ntmps Gs.none σ' a' w' → Q' (ajm x) a' w') → code.wp E.P Q' a w) : aG E.P A8 args r := by
 refine ⟨⟨fn, code, h1, h2, h3⟩, fun w S vs hS gE => ?_⟩
 have AS := cU.1 gE
 refine calls_of_wp h1 h2 ?_
 have OH : vs.length = args.length := AS.length.symm
 let c0 : Cx := ⟨S, w, fun _ => .slice none 0 0, fun _ => none, fun _ => False⟩
 have hI0 : Inv w S c0 := ⟨Below.refl _ _, fun _ _ h => h, fun _ _ h => .inl h, hS, fun _ _ h => by simp [c0] at h, fun _ _ h => by simp [c0] at h, fun _ _ _ _ _ h => by simp [c0] at h⟩
 have KF : Rel w S fn.ntmps Gs.none (E7 args) { tmps := vs.toArray ++ Array.replicate (fn.ntmps - vs.toArray.size) undef, defers := [] } w := by
  refine ⟨⟨c0, rfl, rfl, fun _ h => h.elim, hI0, fun s => ?_, fun p hp => (Gs.J3 hp).elim⟩, by simp; omega, rfl⟩
  simp only [E7]
  by_cases hs : s < args.length
  ·obtain ⟨u, hu, hr⟩ := AS.get (List.getElem?_eq_getElem hs)
   have e1 : args.getD s .undef = args[s] := by simp [List.getD, List.getElem?_eq_getElem hs]
   have e2 : (vs.toArray ++ Array.replicate (fn.ntmps - vs.toArray.size) undef).getD s undef = u := by
    have : s < vs.length := by omega
    simp [this] at hu ⊢
    simp [Array.getElem?_append, this, hu]
   rw [e1]
   show aJ c0 args[s] ((vs.toArray ++ Array.replicate (fn.ntmps - vs.toArray.size) undef).getD s undef)
   rw [e2]
   exact aJ.jO hr
  ·have e1 : args.getD s .undef = .undef := by simp [List.getD, List.getElem?_eq_none (show args.length ≤ s by omega)]
   rw [e1]
   simp [aJ, aQ]
 refine h _ _ _ _ _ KF ?_
 have fin : ∀ σ' a' w', Z8 E fn.results.toList r σ' → Rel w S fn.ntmps Gs.none σ' a' w' → a'.defers = [] ∧ ∃ v, (results fn a'.tmps).run E.P w' = .ok v w' ∧ (∃ v', Ending.returned v = .returned v' ∧ Below w.heap.size w w' ∧
   ∃ S' : dW, (∀ b o, S b o → S' b o) ∧ (∀ b o, S' b o → S b o ∨ (w.heap.size ≤ b ∧ b < w'.heap.size)) ∧ c9 S' w' r v') := by
  rintro σ' a' w' hp ⟨⟨c, rfl, hr, fX, hI, hf, _⟩, hn, fM⟩
  refine ⟨fM, ?_⟩
  unfold Z8 at hp
  have wP : pN E ⟨σ'.f, c.rows, σ'.clock⟩ fn.results.toList fun vs => eF c.rows (vs.flatMap dX) ∧ (vs.map (pz c.rows)).all fW = true ∧ r = KG (vs.map (pz c.rows)) := by
   rw [hr]; exact hp
  have aoU : ∃ vs us, (eF c.rows (vs.flatMap dX) ∧ (vs.map (pz c.rows)).all fW = true ∧ r = KG (vs.map (pz c.rows))) ∧ bB (aJ c) vs us ∧
    (results fn a'.tmps).run E.P c.w = .ok (if h : us.toArray.size = 1 then us.toArray[0] else .tuple us.toArray) c.w := by
   have key : ∀ g : ResultVar → Sem Value, (∀ t, g (.tmp t) = pure (a'.tmps.getD t undef)) → (∀ x t, g (.cell x t) = do loadVar t (← asAddr (a'.tmps.getD x undef))) →
     ∃ vs us, (eF c.rows (vs.flatMap dX) ∧ (vs.map (pz c.rows)).all fW = true ∧ r = KG (vs.map (pz c.rows))) ∧ bB (aJ c) vs us ∧
      (do let vs ← fn.results.mapM g; pure (if h : vs.size = 1 then vs[0] else .tuple vs) : Sem Value).run E.P c.w = .ok (if h : us.toArray.size = 1 then us.toArray[0] else .tuple us.toArray) c.w := by
    intro g hg1 n4
    obtain ⟨vs, us, g1, g4, g5⟩ := rR hI hf hg1 n4 _ _ wP
    refine ⟨vs, us, g1, g4, ?_⟩
    have : (fn.results.mapM g).run E.P c.w = .ok us.toArray c.w := by
     rw [Array.mapM_eq_mapM_toList]
     simp [g5]
    rw [Sem.run_bind, this, Result.andThen_ok, Sem.run_pure]
   unfold results
   exact key _ (fun _ => rfl) (fun _ _ => rfl)
  obtain ⟨vs, us, ⟨g1, g2, g3⟩, g4, jP⟩ := aoU
  have J5 := hI.freeze (vs.flatMap dX)
  have tP : bB (c9 (OQ c (vs.flatMap dX)) c.w) (vs.map (pz c.rows)) us := by
   refine bB.dN (by simp [g4.length]) fun k p u hp hu => ?_
   simp at hp
   obtain ⟨q, hq, rfl⟩ := hp
   obtain ⟨u', q1, q2⟩ := g4.get hq
   rw [hu] at q1; cases q1
   exact G0 hI g1 q2 (fun id iI => by simp only [List.mem_flatMap]; exact ⟨q, List.mem_of_getElem? hq, iI⟩) (List.all_eq_true.1 g2 _ (by simp; exact ⟨q, List.mem_of_getElem? hq, rfl⟩))
  refine ⟨_, jP, _, rfl, hI.below, OQ c (vs.flatMap dX), fun b o h => J5.ext b o h, fun b o h => J5.new b o h, ?_⟩
  rw [g3]
  have hl := tP.length
  cases hm : vs.map (pz c.rows) with
  | nil =>
   rw [hm] at tP hl
   have : us = [] := List.eq_nil_of_length_eq_zero (by simpa using hl.symm)
   subst this
   simp only [KG, c9]
   exact ⟨[], by simp, by simp [bM]⟩
  | cons p ps =>
   rw [hm] at tP hl
   match us, tP with
   | u :: us, tP =>
    cases ps with
    | nil =>
     match us, tP with
     | [], tP => simpa [KG] using tP.1
    | cons q qs =>
     have h2 : ¬ (u :: us).toArray.size = 1 := by simp at hl ⊢; intro h; subst h; simp at hl
     rw [dif_neg h2]
     simp only [KG, c9]
     exact ⟨_, rfl, cU.2 tP⟩
 intro x σ' a' w' hx lE
 cases x with
 | normal => exact fin σ' a' w' hx lE
 | ret => exact fin σ' a' w' hx lE
 | exit id => exact hx.elim
end
section
variable {P : Program} {t : TypeId}
theorem aE {n : Nat} {v : Value} {z : List PV} (h : (P.info? t).bind (fun i => i.zero.map fun v => (i.size, v)) = some (n, v)) (hz : v.cells.toList.map iX = z) (h1 : v.cells.all (·.oneCell') = true) (hl : z.length = n) (hp : 0 < n) : lT P t n z := by
 refine ⟨?_, hl, hp⟩
 cases hi : P.info? t with
 | none => simp [hi] at h
 | some i =>
  cases n3 : i.zero with
  | none => simp [hi, n3] at h
  | some v0 =>
   simp [hi, n3] at h
   obtain ⟨rfl, rfl⟩ := h
   exact ⟨i, v0, rfl, n3, rfl, hz, h1⟩
theorem cG {b : Nat} (h : (P.info? t).map (·.bytes) = some b) : ∃ i, P.info? t = some i ∧ i.bytes = b := by
 cases hi : P.info? t with
 | none => simp [hi] at h
 | some i => exact ⟨i, rfl, by simpa [hi] using h⟩
theorem E8 {n : Nat} (h : (P.info? t).map (·.size) = some n) : ∃ i, P.info? t = some i ∧ i.size = n := by
 cases hi : P.info? t with
 | none => simp [hi] at h
 | some i => exact ⟨i, rfl, by simpa [hi] using h⟩
theorem aab (h : (P.underlying t).isSome = true) : ∃ d, P.underlying t = some d := Option.isSome_iff_exists.1 h
def O3 (P : Program) (f : Field) (x : Nat × Nat × Bool) : Bool :=
 f.offset == x.1 && (P.info? f.type).map (·.size) == some x.2.1 && decide (0 < x.2.1) && wZ P f.type == x.2.2 && (P.underlying f.type).isSome
def rS (P : Program) : List Field → List (Nat × Nat × Bool) → Bool
 | [], [] => true
 | f :: fs, x :: xs => O3 P f x && rS P fs xs
 | _, _ => false
theorem V2 {f : Field} {x : Nat × Nat × Bool} (h : O3 P f x = true) : mZ P f x := by
 simp only [O3, Bool.and_eq_true, beq_iff_eq, decide_eq_true_eq] at h
 obtain ⟨⟨⟨⟨h1, h2⟩, h3⟩, h4⟩, h5⟩ := h
 exact ⟨h1, E8 h2, h3, h4, aab h5⟩
theorem A9 : ∀ {fs : List Field} {xs : List (Nat × Nat × Bool)}, rS P fs xs = true → bB (mZ P) fs xs
 | [], [], _ => trivial
 | f :: fs, x :: xs, h => by
  simp only [rS, Bool.and_eq_true] at h
  exact ⟨V2 h.1, A9 h.2⟩
 | [], _ :: _, h => by simp [rS] at h
 | _ :: _, [], h => by simp [rS] at h
def S4 (P : Program) (t : TypeId) (xs : List (Nat × Nat × Bool)) : Bool :=
 match P.underlying t with
 | some (.struct fields) => rS P fields.toList xs
 | _ => false
theorem aY {xs : List (Nat × Nat × Bool)} (h : S4 P t xs = true) : ∃ fields : Array Field, P.underlying t = some (.struct fields) ∧ bB (mZ P) fields.toList xs := by
 unfold S4 at h
 split at h
 ·rename_i fields hu; exact ⟨fields, hu, A9 h⟩
 ·cases h
end
def W (E : Env) (n : Nat) (tl : Nat → Nat) (c : Code) (Q : PX → PS → Prop) (σ : PS) : Prop :=
 eS E n tl c = true → ∀ (w0 : World) (S0 : dW) (G : Gs) (a : Act) (w : World) (Q' : Exit → Act → World → Prop), Rel w0 S0 n G σ a w →
  (∀ x σ' a' w', Q x σ' → Rel w0 S0 n G σ' a' w' → Q' (ajm x) a' w') → c.wp E.P Q' a w
def Gh (n : Nat) (σ σ' : PS) : Prop := ∀ (w0 : World) (S0 : dW) (G : Gs) (a : Act) (w : World), Rel w0 S0 n G σ a w → Rel w0 S0 n G σ' a w
section
variable {E : Env} {n : Nat} {tl : Nat → Nat} {Q : PX → PS → Prop} {σ : PS}
theorem W.ghost {c : Code} {σ' : PS} (h : Gh n σ σ') (hw : W E n tl c Q σ') : W E n tl c Q σ := fun gK w0 S0 G a w Q' hR hQ => hw gK w0 S0 G a w Q' (h _ _ _ _ _ hR) hQ
theorem W.mono {c : Code} {Q2 : PX → PS → Prop} (hw : W E n tl c Q2 σ) (h : ∀ x σ, Q2 x σ → Q x σ) : W E n tl c Q σ := fun gK w0 S0 G a w Q' hR hQ => hw gK w0 S0 G a w Q' hR fun x σ' a' w' hx => hQ x σ' a' w' (h x σ' hx)
theorem W.skip (h : Q .normal σ) : W E n tl .skip Q σ := fun _ _ _ _ a w _ hR hQ => wp_skip (hQ .normal σ a w h hR)
theorem W.ret (h : Q .ret σ) : W E n tl .ret Q σ := fun _ _ _ _ a w _ hR hQ => wp_ret (hQ .ret σ a w h hR)
theorem W.exit {id : Nat} (h : Q (.exit id) σ) : W E n tl (.exit id) Q σ := fun _ _ _ _ a w _ hR hQ => wp_exit (hQ (.exit id) σ a w h hR)
theorem W.KH {id : Nat} {ops : List Oper} (h : ∀ K : PS → Prop, (∀ σ, Q .normal σ → K σ) → aM E ops ops K σ) : W E n tl (.region id ops.toArray false) Q σ := by
 intro gK w0 S0 G a w Q' hR hQ
 simp only [eS, qJ, Bool.and_eq_true] at gK
 refine wp_region_list (gV (fun σ' a' w' hk lE => hQ .normal σ' a' w' hk lE) _ σ a w (fun o ho t ht => ?_) (h _ fun _ h => h) hR)
 have := Array.all_eq_true_iff_forall_mem.1 gK.1 o (by simpa using ho)
 simpa [ht] using this
theorem W.aac {id : Nat} {ops : List Oper} (h : ∀ K : PS → Prop, (∀ σ, Q .normal σ → K σ) → gQ E (tl id) ops K σ) : W E n tl (.region id ops.toArray true) Q σ := by
 intro gK w0 S0 G a w Q' hR hQ
 exact sZ (by simpa [eS] using gK) (h _ fun _ h => h) hR fun σ' a' w' hk lE => hQ .normal σ' a' w' hk lE
theorem W.seq {x y : Code} (h : W E n tl x (D8 (W E n tl y Q) Q) σ) : W E n tl (.seq x y) Q σ := by
 intro gK w0 S0 G a w Q' hR hQ
 simp only [eS, Bool.and_eq_true] at gK
 refine wp_seq (h gK.1 w0 S0 G a w _ hR fun x σ' a' w' hx lE => ?_)
 cases x with
 | normal => exact hx gK.2 w0 S0 G a' w' _ lE hQ
 | exit id => exact hQ (.exit id) σ' a' w' hx lE
 | ret => exact hQ .ret σ' a' w' hx lE
theorem W.O4 {id : Nat} {ops : List Oper} {y : Code} (h : ∀ K : PS → Prop, (∀ σ, W E n tl y Q σ → K σ) → aM E ops ops K σ) : W E n tl (.seq (.region id ops.toArray false) y) Q σ :=
 W.seq (W.KH h)
theorem W.aad {id : Nat} {ops : List Oper} {y : Code} (h : ∀ K : PS → Prop, (∀ σ, W E n tl y Q σ → K σ) → gQ E (tl id) ops K σ) : W E n tl (.seq (.region id ops.toArray true) y) Q σ :=
 W.seq (W.aac h)
theorem W.cond {c : Operand} {t e : Code} (h : ∃ b, aR σ.f c = .bool b ∧ (b = true → W E n tl t Q σ) ∧ (b = false → W E n tl e Q σ)) : W E n tl (.cond c t e) Q σ := by
 intro gK w0 S0 G a w Q' hR hQ
 simp only [eS, Bool.and_eq_true] at gK
 obtain ⟨b, hb, h1, h2⟩ := h
 obtain ⟨cx, _, _, _, _, hf, _⟩ := hR.ex
 have := l8 hf c
 rw [hb, dO] at this
 refine wp_cond this ?_
 cases b with
 | true => exact h1 rfl gK.1 w0 S0 G a w Q' hR hQ
 | false => exact h2 rfl gK.2 w0 S0 G a w Q' hR hQ
theorem W.block {id : Nat} {c : Code} (h : W E n tl c (D9 id Q) σ) : W E n tl (.block id c) Q σ := by
 intro gK w0 S0 G a w Q' hR hQ
 refine wp_block (h gK w0 S0 G a w _ hR fun x σ' a' w' hx lE => ?_)
 cases x with
 | normal => exact hQ .normal σ' a' w' hx lE
 | exit j =>
  simp only [D9] at hx
  simp only [ajm, Exit.inBlock]
  split at hx
  ·rename_i hj; rw [if_pos hj]; exact hQ .normal σ' a' w' hx lE
  ·rename_i hj; rw [if_neg hj]; exact hQ (.exit j) σ' a' w' hx lE
 | ret => exact hQ .ret σ' a' w' hx lE
theorem W.loop {c : Code} (I : Nat → PS → Prop) (k : Nat) (h0 : I k σ) (h1 : ∀ k σ, I k σ → W E n tl c (D8 (fun σ' => ∃ m, m < k ∧ I m σ') Q) σ) : W E n tl (.loop c) Q σ := by
 intro gK w0 S0 G a w Q' hR hQ
 refine wp_loop_ghost (fun k a w => ∃ σ, I k σ ∧ Rel w0 S0 n G σ a w) k ⟨σ, h0, hR⟩ ?_
 rintro k a w ⟨σ, hI, hR⟩
 refine h1 k σ hI gK w0 S0 G a w _ hR fun x σ' a' w' hx lE => ?_
 cases x with
 | normal => obtain ⟨m, hm, wQ⟩ := hx; exact ⟨m, hm, σ', wQ, lE⟩
 | exit id => exact hQ (.exit id) σ' a' w' hx lE
 | ret => exact hQ .ret σ' a' w' hx lE
end
theorem aae {E : Env} {A8 : FuncId} {fn : Func} {code : Code} (tl : Nat → Nat) {args : List PV} {r : PV} (h1 : E.P.funcs[A8]? = some fn) (h2 : fn.body = some code) (h3 : (fn.name == "runtime.NumGoroutine") = false)
  (gK : eS E fn.ntmps tl code = true) (gB : args.length ≤ fn.ntmps) (h : W E fn.ntmps tl code (Z9 E fn.results.toList r) (E7 args)) : aG E.P A8 args r :=
 O2 h1 h2 h3 gB fun w0 S0 a w Q' hR hQ => h gK w0 S0 Gs.none a w Q' hR hQ
def go (P : Prop) : Prop := P
def aV (R : PV → Prop) (K : PV → Prop) : Prop := ∃ v, R v ∧ K v
def iJ (p : PV) (want : Bool) (A B : Prop) : Prop := ∃ t, p = .bool t ∧ (t = want → A) ∧ (t = (!want) → B)
def stepG (p : PV) (want : Bool) (A B : Prop) : Prop := (p = .bool want ∧ A) ∨ ((p = .bool (!want) ∨ p = .fH []) ∧ B)
def aH (A B : Prop) : Prop := A ∧ B
@[congr] theorem ag6 {R R' K : PV → Prop} (h : ∀ v, R v = R' v) : aV R K = aV R' K := by rw [show R = R' from funext h]
@[congr] theorem ag7 {p p' : PV} {want : Bool} {A B : Prop} (h : p = p') : iJ p want A B = iJ p' want A B := by rw [h]
@[congr] theorem ag8 {p p' : PV} {want : Bool} {A B : Prop} (h : p = p') : stepG p want A B = stepG p' want A B := by rw [h]
@[congr] theorem ag9 {A A' B : Prop} (h : A = A') : aH A B = aH A' B := by rw [h]
@[congr] theorem ajn {E : Env} {ops l : List Oper} {K : PS → Prop} {σ σ' : PS} (h : σ = σ') : aM E ops l K σ = aM E ops l K σ' := by rw [h]
@[congr] theorem ajo {E : Env} {ops l : List Oper} {clk k k' : Nat} {K : PS → Prop} {σ σ' : ST} (hk : k = k') (h : σ = σ') : aO E ops clk k l K σ = aO E ops clk k' l K σ' := by rw [hk, h]
@[congr] theorem ajp {md : Region.Mode} {ops : List Oper} {j j' k k' : Nat} (hj : j = j') (hk : k = k') : oW md ops j k = oW md ops j' k' := by rw [hj, hk]
@[congr] theorem amK {md : Region.Mode} {ops : List Oper} {i i' id jL : Nat} {t t' : Nat → Nat → Prop} (hi : i = i') (iI : id = jL) (ht : t = t') : A3 md ops i id t = A3 md ops i' jL t' := by rw [hi, iI, ht]
@[congr] theorem ajq {md : Region.Mode} {ops : List Oper} {i i' : Nat} {t t' : Nat → Nat → Prop} {rows rows' : Rows} (hi : i = i') (ht : t = t') (hr : rows = rows') : eG md ops i t rows = eG md ops i' t' rows' := by rw [hi, ht, hr]
@[congr] theorem adN {E : Env} {tl : Nat} {l : List Oper} {K : PS → Prop} {σ σ' : PS} (h : σ = σ') : gQ E tl l K σ = gQ E tl l K σ' := by rw [h]
@[congr] theorem asO {E : Env} {n : Nat} {tl : Nat → Nat} {c : Code} {Q : PX → PS → Prop} {σ σ' : PS} (h : σ = σ') : W E n tl c Q σ = W E n tl c Q σ' := by rw [h]
theorem jR {t : PV} {K : PV → Prop} : aV (fun v => v = t) K = K t := by simp [aV]
theorem V3 {t : PV} {K : PV → Prop} : aV (fun v => t = v) K = K t := by simp [aV]
theorem i9 {c : Prop} {R K : PV → Prop} : aV (fun v => c ∧ R v) K = aH c (aV R K) := by
 apply propext; simp only [aV, aH]
 constructor
 ·rintro ⟨v, ⟨h1, h2⟩, h3⟩; exact ⟨h1, v, h2, h3⟩
 ·rintro ⟨h1, v, h2, h3⟩; exact ⟨v, ⟨h1, h2⟩, h3⟩
theorem aaf {α : Type} {R : α → PV → Prop} {K : PV → Prop} : aV (fun v => ∃ x, R x v) K = ∃ x, aV (R x) K := by
 apply propext; simp only [aV]
 constructor
 ·rintro ⟨v, ⟨x, h2⟩, h3⟩; exact ⟨x, v, h2, h3⟩
 ·rintro ⟨x, v, h2, h3⟩; exact ⟨v, ⟨x, h2⟩, h3⟩
theorem O5 {B : Prop} : aH True B = B := by simp [aH]
theorem aag {A B : Prop} : iJ (.bool true) true A B = A := by simp [iJ]
theorem aah {A B : Prop} : iJ (.bool true) false A B = B := by simp [iJ]
theorem aai {A B : Prop} : iJ (.bool false) true A B = B := by simp [iJ]
theorem aaj {A B : Prop} : stepG (.bool true) true A B = A := by simp [stepG]
theorem aak {A B : Prop} : stepG (.bool true) false A B = B := by simp [stepG]
theorem aal {A B : Prop} : stepG (.bool false) true A B = B := by simp [stepG]
theorem aam {A B : Prop} : stepG (.bool false) false A B = A := by simp [stepG]
theorem aan {w : Bool} {A B : Prop} : stepG (.fH []) w A B = B := by simp [stepG]
theorem aao {A B : Prop} : iJ (.bool false) false A B = A := by simp [iJ]
theorem BA {f : Nat → PV} {d j : Nat} {v : PV} : put f (some d) v j = if j = d then v else f j := rfl
theorem aap {f : Nat → PV} {v : PV} : put f none v = f := rfl
theorem ajr {α : Type} {f : Nat → α} {i j : Nat} {x : α} : dZ f i x j = if j = i then x else f j := rfl
def fa : List (Nat × PV) → Nat → PV
 | [], _ => .undef
 | (i, v) :: l, j => if j = i then v else fa l j
theorem O6 {j : Nat} : fa [] j = .undef := rfl
theorem HA {i j : Nat} {v : PV} {l : List (Nat × PV)} : fa ((i, v) :: l) j = if j = i then v else fa l j := rfl
section
variable {E : Env} {ops os : List Oper} {K : PS → Prop} {f : Nat → PV} {rows : Rows} {clk : Nat} {d : Option Tmp} {ty : TypeId} {pos : String} {af : Array Edge}
theorem aB (n : Nat) (l : List Nat) : Gh n ⟨f, rows, clk⟩ ⟨fa (l.map fun i => (i, f i)), rows, clk⟩ := by
 rintro w0 S0 G a w ⟨⟨c, h1, h2, h3, h4, h5, h6⟩, h7, h8⟩
 refine ⟨⟨c, h1, h2, h3, h4, fun s => ?_, h6⟩, h7, h8⟩
 have : fa (l.map fun i => (i, f i)) s = f s ∨ fa (l.map fun i => (i, f i)) s = .undef := by
  induction l with
  | nil => exact .inr rfl
  | cons i l ih =>
   simp only [List.map_cons, fa]
   split
   ·rename_i h; rw [h]; exact .inl rfl
   ·exact ih
 rcases this with h | h
 ·simp only; rw [h]; exact h5 s
 ·simp only; rw [h]; simp [aJ, aQ]
theorem W.live {n : Nat} {tl : Nat → Nat} {c : Code} {Q : PX → PS → Prop} (l : List Nat) (h : W E n tl c Q ⟨fa (l.map fun i => (i, f i)), rows, clk⟩) : W E n tl c Q ⟨f, rows, clk⟩ := W.ghost (aB n l) h
theorem O7 {op : Op} {j : Nat} {want : Bool} : aM E ops (⟨d, op, ty, pos, af, some (j, want)⟩ :: os) K ⟨f, rows, clk⟩ =
  match (ops[j]?).bind (·.dst) with
  | none => False
  | some e => stepG (f e) want (aM E ops (⟨d, op, ty, pos, af, none⟩ :: os) K ⟨f, rows, clk⟩) (aM E ops os K ⟨put f d (.fH []), rows, clk⟩) := by
 simp only [aM]
 cases hx : (ops[j]?).bind (·.dst) with
 | none => rfl
 | some e => rfl
theorem cH {R : PV → Prop} {k : PV → Prop} (h : ∀ v, R v ↔ k v) : (∃ v u, (R v ∧ u = none) ∧ K ⟨put f d v, gF rows u, clk⟩) = aV k fun v => K ⟨put f d v, rows, clk⟩ := by
 apply propext; simp only [aV]
 constructor
 ·rintro ⟨v, u, ⟨h1, rfl⟩, h2⟩; exact ⟨v, (h v).1 h1, h2⟩
 ·rintro ⟨v, h1, h2⟩; exact ⟨v, none, ⟨(h v).2 h1, rfl⟩, h2⟩
theorem V4 {x : Operand} : aM E ops (⟨d, .move x, ty, pos, af, none⟩ :: os) K ⟨f, rows, clk⟩ = aM E ops os K ⟨put f d (aR f x), rows, clk⟩ := by
 simp only [aM, eQ, ys, yv]
 rw [cH (k := fun v => v = aR f x) (fun v => Iff.rfl), jR]
theorem KI {x : Operand} : aM E ops (⟨d, .assign x, ty, pos, af, none⟩ :: os) K ⟨f, rows, clk⟩ = aM E ops os K ⟨put f d (aR f x), rows, clk⟩ := by
 simp only [aM, eQ, ys, yv]
 rw [cH (k := fun v => v = aR f x) (fun v => Iff.rfl), jR]
theorem V5 {c a b : Operand} : aM E ops (⟨d, .pick c a b, ty, pos, af, none⟩ :: os) K ⟨f, rows, clk⟩ = iJ (aR f c) true (aM E ops os K ⟨put f d (aR f a), rows, clk⟩) (aM E ops os K ⟨put f d (aR f b), rows, clk⟩) := by
 simp only [aM, eQ, ys, yv]
 rw [cH (fun v => Iff.rfl)]
 apply propext; simp only [aV, iJ]
 constructor
 ·rintro ⟨v, ⟨t, h1, rfl⟩, h2⟩
  refine ⟨t, h1, fun h => ?_, fun h => ?_⟩
  ·subst h; exact h2
  ·subst h; exact h2
 ·rintro ⟨t, h1, h2, h3⟩
  cases t with
  | true => exact ⟨_, ⟨true, h1, rfl⟩, h2 rfl⟩
  | false => exact ⟨_, ⟨false, h1, rfl⟩, h3 rfl⟩
theorem aaq {op : BinOp} {t t2 : TypeId} {x y : Operand} : aM E ops (⟨d, .binOp op t x y t2, ty, pos, af, none⟩ :: os) K ⟨f, rows, clk⟩ = aV (fun v => GR E op t (aR f x) (aR f y) v) fun v => aM E ops os K ⟨put f d v, rows, clk⟩ := by
 simp only [aM, eQ, ys, yv]
 rw [cH (fun v => Iff.rfl)]
theorem aev {op : UnOp} {t : TypeId} {x : Operand} : aM E ops (⟨d, .unOp op t x, ty, pos, af, none⟩ :: os) K ⟨f, rows, clk⟩ = aV (fun v => yun op (aR f x) v) fun v => aM E ops os K ⟨put f d v, rows, clk⟩ := by
 simp only [aM, eQ, ys, yv]
 rw [cH (k := fun v => yun op (aR f x) v) (fun v => Iff.rfl)]
theorem V6 {s t : TypeId} {x : Operand} : aM E ops (⟨d, .convert s t x, ty, pos, af, none⟩ :: os) K ⟨f, rows, clk⟩ = aV (fun v => sU (E.ty s) (E.ty t) (aR f x) v) fun v => aM E ops os K ⟨put f d v, rows, clk⟩ := by
 simp only [aM, eQ, ys, yv]
 rw [cH (k := fun v => sU (E.ty s) (E.ty t) (aR f x) v) (fun v => Iff.rfl)]
theorem HB {i : Nat} {x : Operand} : aM E ops (⟨d, .extract x i, ty, pos, af, none⟩ :: os) K ⟨f, rows, clk⟩ = aV (fun v => OB i (aR f x) v) fun v => aM E ops os K ⟨put f d v, rows, clk⟩ := by
 simp only [aM, eQ, ys, yv]
 rw [cH (k := fun v => OB i (aR f x) v) (fun v => Iff.rfl)]
theorem V7 {t : TypeId} {x : Operand} : aM E ops (⟨d, .load t x, ty, pos, af, none⟩ :: os) K ⟨f, rows, clk⟩ = aV (fun v => sR E t rows (aR f x) v) fun v => aM E ops os K ⟨put f d v, rows, clk⟩ := by
 simp only [aM, eQ, ys, yv]
 rw [cH (fun v => Iff.rfl)]
theorem O8 {t : TypeId} {i : Nat} {x : Operand} : aM E ops (⟨d, .field t x i, ty, pos, af, none⟩ :: os) K ⟨f, rows, clk⟩ = aV (fun v => tH E t i (aR f x) v) fun v => aM E ops os K ⟨put f d v, rows, clk⟩ := by
 simp only [aM, eQ, ys, yv]
 rw [cH (fun v => Iff.rfl)]
theorem BB {t : TypeId} {i : Nat} {x : Operand} : aM E ops (⟨d, .fieldAddr t x i, ty, pos, af, none⟩ :: os) K ⟨f, rows, clk⟩ = aV (fun v => fJ E t rows i (aR f x) v) fun v => aM E ops os K ⟨put f d v, rows, clk⟩ := by
 simp only [aM, eQ, ys, yv]
 rw [cH (fun v => Iff.rfl)]
theorem BC {t : TypeId} {x y : Operand} : aM E ops (⟨d, .indexAddr t x y, ty, pos, af, none⟩ :: os) K ⟨f, rows, clk⟩ = aV (fun v => fK E t rows (aR f x) (aR f y) v) fun v => aM E ops os K ⟨put f d v, rows, clk⟩ := by
 simp only [aM, eQ, ys, yv]
 rw [cH (fun v => Iff.rfl)]
theorem O9 {t : TypeId} {x : Operand} {lo hi mx : Option Operand} : aM E ops (⟨d, .slice t x lo hi mx, ty, pos, af, none⟩ :: os) K ⟨f, rows, clk⟩ = aV (fun v => nY E t rows (aR f x) (lo.map (aR f)) (hi.map (aR f)) (mx.map (aR f)) v) fun v => aM E ops os K ⟨put f d v, rows, clk⟩ := by
 simp only [aM, eQ, ys, yv]
 rw [cH (fun v => Iff.rfl)]
theorem PA {t : TypeId} {parts : Array (Nat × Operand)} : aM E ops (⟨d, .build t parts, ty, pos, af, none⟩ :: os) K ⟨f, rows, clk⟩ = aV (fun v => qB (E.ty t) (parts.toList.map fun x => (x.1, aR f x.2)) v) fun v => aM E ops os K ⟨put f d v, rows, clk⟩ := by
 simp only [aM, eQ, ys, yv]
 rw [cH (k := fun v => qB (E.ty t) (parts.toList.map fun x => (x.1, aR f x.2)) v) (fun v => Iff.rfl)]
theorem PC {t : TypeId} {x y : Operand} : aM E ops (⟨d, .index t x y, ty, pos, af, none⟩ :: os) K ⟨f, rows, clk⟩ = aV (fun v => tI (E.ty t) (aR f x) (aR f y) v) fun v => aM E ops os K ⟨put f d v, rows, clk⟩ := by
 simp only [aM, eQ, ys, yv]
 rw [cH (k := fun v => tI (E.ty t) (aR f x) (aR f y) v) (fun v => Iff.rfl)]
theorem aar {t : TypeId} {x : Operand} : aM E ops (⟨d, .call { callee := .builtin .len, args := ⟨[x]⟩, argTypes := ⟨[t]⟩ }, ty, pos, af, none⟩ :: os) K ⟨f, rows, clk⟩ = aV (fun v => x7 (E.ty t) rows (aR f x) v) fun v => aM E ops os K ⟨put f d v, rows, clk⟩ := by
 simp only [aM, eQ, ys, yv]
 rw [cH (k := fun v => x7 (E.ty t) rows (aR f x) v) (fun v => Iff.rfl)]
theorem EA {x : Operand} : aM E ops (⟨d, .nilCheck x, ty, pos, af, none⟩ :: os) K ⟨f, rows, clk⟩ = aV (fun v => D5 rows (aR f x) v) fun v => aM E ops os K ⟨put f d v, rows, clk⟩ := by
 simp only [aM, eQ, ys, yv]
 rw [cH (k := fun v => D5 rows (aR f x) v) (fun v => Iff.rfl)]
theorem aas {ts : Array TypeId} {x y : Operand} : aM E ops (⟨d, .call { callee := .builtin .max, args := ⟨[x, y]⟩, argTypes := ts }, ty, pos, af, none⟩ :: os) K ⟨f, rows, clk⟩ = aV (fun v => OD (aR f x) (aR f y) v) fun v => aM E ops os K ⟨put f d v, rows, clk⟩ := by
 simp only [aM, eQ, ys, yv]
 rw [cH (fun v => Iff.rfl)]
theorem aat {ts : Array TypeId} {x y : Operand} : aM E ops (⟨d, .call { callee := .builtin .min, args := ⟨[x, y]⟩, argTypes := ts }, ty, pos, af, none⟩ :: os) K ⟨f, rows, clk⟩ = aV (fun v => OE (aR f x) (aR f y) v) fun v => aM E ops os K ⟨put f d v, rows, clk⟩ := by
 simp only [aM, eQ, ys, yv]
 rw [cH (fun v => Iff.rfl)]
theorem zD {t : TypeId} {len : Nat} {parts : Array (Nat × Operand)} : aM E ops (⟨d, .buildSlice t len parts, ty, pos, af, none⟩ :: os) K ⟨f, rows, clk⟩ = aV (fun v => OR (E.ty t) rows len (parts.toList.map fun x => (x.1, aR f x.2)) v) fun v => aM E ops os K ⟨put f d v, rows, clk⟩ := by
 simp only [aM, eQ, ys]
 rw [cH (fun v => Iff.rfl)]
theorem PE {t : TypeId} {p x : Operand} : aM E ops (⟨none, .store t p x, ty, pos, af, none⟩ :: os) K ⟨f, rows, clk⟩ = ∃ id r, qF E t rows (aR f p) (aR f x) .undef (some (id, r)) ∧ aM E ops os K ⟨f, dZ rows id (some r), clk⟩ := by
 simp only [aM, eQ, ys]
 apply propext
 constructor
 ·rintro ⟨v, u, h, h2⟩
  have h' := h
  obtain ⟨_, rfl, h3⟩ := h
  split at h3
  ·obtain ⟨_, _, _, _, _, _, _, _, _, _, rfl⟩ := h3
   exact ⟨_, _, h', h2⟩
  ·exact h3.elim
 ·rintro ⟨id, r, h, h2⟩; exact ⟨.undef, some (id, r), h, h2⟩
theorem PF {t : TypeId} : aM E ops (⟨d, .alloc t, ty, pos, af, none⟩ :: os) K ⟨f, rows, clk⟩ = aH ((E.ty t).known = true) (aM E ops os K ⟨put f d (.ptr (d.getD 0) clk 0 0), dZ rows (d.getD 0) (some ⟨clk, t, (E.ty t).size, [(E.ty t).zero]⟩), clk + 1⟩) := rfl
theorem aau {t : TypeId} {x : Operand} : aM E ops (⟨d, .box t x, ty, pos, af, none⟩ :: os) K ⟨f, rows, clk⟩ = aH ((E.ty t).known = true) (∃ l, bW (aR f x) = some l ∧ (∀ q ∈ l, iQ rows q) ∧ l.length = (E.ty t).size ∧ aM E ops os K ⟨put f d (.ptr (d.getD 0) clk 0 0), dZ rows (d.getD 0) (some ⟨clk, t, (E.ty t).size, [l]⟩), clk + 1⟩) := rfl
def qK (t : TI) (x y : PV) (K : TypeId → Nat → List PV → Int → Prop) : Prop :=
 match t, x, y with
 | .slice e n b z, .int _ x, .int _ y => aH (0 ≤ x ∧ x ≤ y ∧ y.toNat ≤ room ∧ y.toNat * b ≤ room) (K e n z x)
 | _, _, _ => False
theorem BD {t : TypeId} {l c : Operand} : aM E ops (⟨d, .makeSlice t l c, ty, pos, af, none⟩ :: os) K ⟨f, rows, clk⟩ = qK (E.ty t) (aR f l) (aR f c) fun e n z x => aM E ops os K ⟨put f d (.own (d.getD 0) clk 0 x.toNat), dZ rows (d.getD 0) (some ⟨clk, e, n, List.replicate x.toNat z⟩), clk + 1⟩ := by
 simp only [aM, eQ, qK, G3]
 generalize E.ty t = T
 generalize aR f l = A
 generalize aR f c = B
 cases T with
 | slice e n b z =>
  cases A with
  | int k x =>
   cases B with
   | int k2 y => simp only [aH, and_assoc]
   | _ => rfl
  | _ => rfl
 | _ => rfl
def V8 (t : TI) (rows : Rows) (x y : PV) (clk d : Nat) (K : PV → Rows → Nat → Prop) : Prop :=
 match t with
 | .slice e n b _ =>
  ∃ l, u2 rows y l ∧ (∀ e ∈ l, e.length = n) ∧
  match x with
  | .nil => aH (l.length ≤ room ∧ l.length * b ≤ room) (K (.own d clk 0 l.length) (dZ rows d (some ⟨clk, e, n, l⟩)) (clk + 1))
  | .own id ver off len => ∃ r, rows id = some r ∧ r.ver = ver ∧ off = 0 ∧ len = r.els.length ∧ r.e = e ∧ r.size = n ∧ aH (len + l.length ≤ room ∧ (len + l.length) * b ≤ room) (K (.own id clk 0 (len + l.length)) (dZ rows id (some ⟨clk, e, n, r.els ++ l⟩)) (clk + 1))
  | .jN l0 => (∀ e ∈ l0, e.length = n) ∧ (∀ e ∈ l, ∀ p ∈ e, cM p = true) ∧ aH (l0.length + l.length ≤ room ∧ (l0.length + l.length) * b ≤ room) (K (.sl (l0 ++ l)) rows clk)
  | _ => False
 | _ => False
theorem KJ {t t2 : TypeId} {x y : Operand} : aM E ops (⟨d, .call { callee := .builtin .append, args := ⟨[x, y]⟩, argTypes := ⟨[t, t2]⟩ }, ty, pos, af, none⟩ :: os) K ⟨f, rows, clk⟩ =
  aH (t2 = t ∨ ZN (E.ty t2) = true) (V8 (E.ty t) rows (aR f x) (aR f y) clk (d.getD 0) fun v rows clk => aM E ops os K ⟨put f d v, rows, clk⟩) := by
 simp only [aM, eQ, G4, V8, G3, aH, PS.put]
 congr 1
 generalize E.ty t = T
 generalize aR f x = A
 cases T with
 | slice e n b z =>
  simp only
  congr 1
  funext l
  congr 2
  cases A with
  | nil => simp only [and_assoc]
  | own id ver off len => simp only [and_assoc]
  | jN l0 => simp only [and_assoc]
  | _ => rfl
 | _ => rfl
end
def u5 (P : Program) (g : FuncId) (args : List PV) (K : PV → Prop) : Prop := ∃ v, aG P g args v ∧ K v
@[congr] theorem aha {P : Program} {g : FuncId} {args KK : List PV} {K : PV → Prop} (h : args = KK) : u5 P g args K = u5 P g KK K := by rw [h]
def qL (E : Env) (p : PV) (gL : List PV) (rows : Rows) (clk : Nat) (K : PV → Rows → Nat → Prop) : Prop :=
 match p with
 | .fn g b6 => if E.writes g = true then b6 = [] ∧ yC E.P g gL rows clk K else aH ((gL.map (pz rows)).all fW = true ∧ eF rows (gL.flatMap dX)) (u5 E.P g (gL.map (pz rows) ++ b6) fun v => K v (E3 rows (gL.flatMap dX)) clk)
 | _ => False
@[congr] theorem aew {E : Env} {p p' : PV} {gL yI : List PV} {rows rows' : Rows} {clk kF : Nat} {K : PV → Rows → Nat → Prop} (h1 : p = p') (h2 : gL = yI) (h3 : rows = rows') (h4 : clk = kF) : qL E p gL rows clk K = qL E p' yI rows' kF K := by rw [h1, h2, h3, h4]
@[congr] theorem ahb {P : Program} {g : FuncId} {gL yI : List PV} {rows : Rows} {clk : Nat} {K : PV → Rows → Nat → Prop} (h : gL = yI) : yC P g gL rows clk K = yC P g yI rows clk K := by rw [h]
@[congr] theorem ahc {t t' : TI} {x x' y y' : PV} {K : TypeId → Nat → List PV → Int → Prop} (h1 : t = t') (h2 : x = x') (h3 : y = y') : qK t x y K = qK t' x' y' K := by rw [h1, h2, h3]
@[congr] theorem ajs {t t' : TI} {rows rows' : Rows} {x x' y y' : PV} {clk kF d d' : Nat} {K : PV → Rows → Nat → Prop} (h1 : t = t') (h2 : rows = rows') (h3 : x = x') (h4 : y = y') (h5 : clk = kF) (h6 : d = d') :
  V8 t rows x y clk d K = V8 t' rows' x' y' kF d' K := by rw [h1, h2, h3, h4, h5, h6]
section
variable {E : Env} {ops os : List Oper} {K : PS → Prop} {f : Nat → PV} {rows : Rows} {clk : Nat} {d : Option Tmp} {ty : TypeId} {pos : String} {af : Array Edge}
theorem V9 {fo : Operand} {args : Array Operand} {ts : Array TypeId} : aM E ops (⟨d, .call { callee := .value fo, args := args, argTypes := ts }, ty, pos, af, none⟩ :: os) K ⟨f, rows, clk⟩ =
  qL E (aR f fo) (args.toList.map (aR f)) rows clk fun v rows clk => aM E ops os K ⟨put f d v, rows, clk⟩ := by
 simp only [aM, eQ, yD, qL, OS, aH, u5]
 generalize aR f fo = A
 have e1 : (args.toList.map fun x => pz rows (aR f x)) = (args.toList.map (aR f)).map (pz rows) := by rw [List.map_map]; rfl
 have e2 : (args.toList.flatMap fun x => dX (aR f x)) = (args.toList.map (aR f)).flatMap dX := by rw [List.flatMap_map]
 rw [e1, e2]
 cases A with
 | fn g b6 =>
  have hm : ai1 E (.fn g b6) = E.writes g := rfl
  by_cases hw : E.writes g = true
  ·rw [hm, if_pos hw]
   cases b6 with
   | nil => simp [hw]
   | cons x l => simp [hw]
  rw [hm, if_neg hw]
  simp only [if_neg hw]
  apply propext
  constructor
  ·rintro ⟨v, ⟨h1, h2⟩, h3, h4⟩; exact ⟨⟨h1, h3⟩, v, h2, h4⟩
  ·rintro ⟨⟨h1, h3⟩, v, h2, h4⟩; exact ⟨v, ⟨h1, h2⟩, h3, h4⟩
 | _ => simp [ai1]
theorem EB {g : FuncId} {b6 : Array Operand} : aM E ops (⟨d, .makeFunc (.func g) ⟨[]⟩ b6, ty, pos, af, none⟩ :: os) K ⟨f, rows, clk⟩ =
  aH (((b6.toList.map (aR f)).map (pz rows)).all fW = true ∧ eF rows ((b6.toList.map (aR f)).flatMap dX))
   (aM E ops os K ⟨put f d (.fn g ((b6.toList.map (aR f)).map (pz rows))), E3 rows ((b6.toList.map (aR f)).flatMap dX), clk⟩) := by
 simp only [aM, eQ, aH, and_assoc]
 have e1 : (b6.toList.map fun x => pz rows (aR f x)) = (b6.toList.map (aR f)).map (pz rows) := by rw [List.map_map]; rfl
 have e2 : (b6.toList.flatMap fun x => dX (aR f x)) = (b6.toList.map (aR f)).flatMap dX := by rw [List.flatMap_map]
 rw [e1, e2]
def lF (k : Nat) (l : List Nat) (t : Nat → Nat → Prop) : Nat → Nat → Prop := fun k' id => (true = true ∧ k' = k ∧ id ∈ l) ∨ t k' id
def oY (k id : Nat) (w : Nat → Nat → Prop) : Nat → Nat → Prop := fun k' jL => (k' = k ∧ jL = id) ∨ w k' jL
variable {k : Nat} {bS : Nat → Nat → Prop} {aP : Nat → Nat → Prop}
theorem PG {op : Op} {j : Nat} {want : Bool} : aO E ops clk k (⟨d, op, ty, pos, af, some (j, want)⟩ :: os) K ⟨f, rows, bS, aP⟩ =
  match (ops[j]?).bind (·.dst) with
  | none => False
  | some e => stepG (f e) want (aO E ops clk k (⟨d, op, ty, pos, af, none⟩ :: os) K ⟨f, rows, bS, aP⟩) (aO E ops clk (k + 1) os K ⟨put f d (.fH []), rows, bS, aP⟩) := by
 have e3 : app k ⟨d, op, ty, pos, af, some (j, want)⟩ false (.fH []) none ⟨f, rows, bS, aP⟩ = ⟨put f d (.fH []), rows, bS, aP⟩ := by simp [app, gF, wlU]
 simp only [aO, e3]
 cases hx : (ops[j]?).bind (·.dst) with
 | none => rfl
 | some e => rfl
theorem cX {o : Oper} {R : PV → Prop} {kk : PV → Prop} {st : ST} (h : ∀ v, R v ↔ kk v) : (∃ v u, (R v ∧ u = none) ∧ VZ .any ops k u bS ∧ aO E ops clk (k + 1) os K (app k o true v u st)) = aV kk fun v => aO E ops clk (k + 1) os K (app k o true v none st) := by
 apply propext; simp only [aV]
 constructor
 ·rintro ⟨v, u, ⟨h1, rfl⟩, _, h2⟩; exact ⟨v, (h v).1 h1, h2⟩
 ·rintro ⟨v, h1, h2⟩; exact ⟨v, none, ⟨(h v).2 h1, rfl⟩, trivial, h2⟩
theorem fD {op : Op} {v : PV} (h : iM op (aR f) = []) : app k ⟨d, op, ty, pos, af, none⟩ true v none ⟨f, rows, bS, aP⟩ = ⟨put f d v, rows, bS, aP⟩ := by simp [app, gF, wlU, h]
theorem rT {op : Op} {v : PV} {l : List Nat} (h : iM op (aR f) = l) : app k ⟨d, op, ty, pos, af, none⟩ true v none ⟨f, rows, bS, aP⟩ = ⟨put f d v, rows, lF k l bS, aP⟩ := by subst h; rfl
theorem WA {x : Operand} : aO E ops clk k (⟨d, .move x, ty, pos, af, none⟩ :: os) K ⟨f, rows, bS, aP⟩ = aO E ops clk (k + 1) os K ⟨put f d (aR f x), rows, bS, aP⟩ := by
 simp only [aO, yn, iN, ys, yv]
 rw [cX (kk := fun v => v = aR f x) (fun v => Iff.rfl), jR, fD rfl]
theorem KL {x : Operand} : aO E ops clk k (⟨d, .assign x, ty, pos, af, none⟩ :: os) K ⟨f, rows, bS, aP⟩ = aO E ops clk (k + 1) os K ⟨put f d (aR f x), rows, bS, aP⟩ := by
 simp only [aO, yn, iN, ys, yv]
 rw [cX (kk := fun v => v = aR f x) (fun v => Iff.rfl), jR, fD rfl]
theorem WB {c a b : Operand} : aO E ops clk k (⟨d, .pick c a b, ty, pos, af, none⟩ :: os) K ⟨f, rows, bS, aP⟩ = iJ (aR f c) true (aO E ops clk (k + 1) os K ⟨put f d (aR f a), rows, bS, aP⟩) (aO E ops clk (k + 1) os K ⟨put f d (aR f b), rows, bS, aP⟩) := by
 simp only [aO, yn, iN, ys, yv]
 rw [cX (fun v => Iff.rfl)]
 apply propext; simp only [aV, iJ, fD (op := .pick c a b) rfl]
 constructor
 ·rintro ⟨v, ⟨t, h1, rfl⟩, h2⟩
  refine ⟨t, h1, fun h => ?_, fun h => ?_⟩
  ·subst h; exact h2
  ·subst h; exact h2
 ·rintro ⟨t, h1, h2, h3⟩
  cases t with
  | true => exact ⟨_, ⟨true, h1, rfl⟩, h2 rfl⟩
  | false => exact ⟨_, ⟨false, h1, rfl⟩, h3 rfl⟩
theorem aav {op : BinOp} {t t2 : TypeId} {x y : Operand} : aO E ops clk k (⟨d, .binOp op t x y t2, ty, pos, af, none⟩ :: os) K ⟨f, rows, bS, aP⟩ = aV (fun v => GR E op t (aR f x) (aR f y) v) fun v => aO E ops clk (k + 1) os K ⟨put f d v, rows, bS, aP⟩ := by
 simp only [aO, yn, iN, ys, yv]; rw [cX (fun v => Iff.rfl)]; simp only [fD (op := .binOp op t x y t2) rfl]
theorem aex {op : UnOp} {t : TypeId} {x : Operand} : aO E ops clk k (⟨d, .unOp op t x, ty, pos, af, none⟩ :: os) K ⟨f, rows, bS, aP⟩ = aV (fun v => yun op (aR f x) v) fun v => aO E ops clk (k + 1) os K ⟨put f d v, rows, bS, aP⟩ := by
 simp only [aO, yn, iN, ys, yv]; rw [cX (fun v => Iff.rfl)]; simp only [fD (op := .unOp op t x) rfl]
theorem WC {s t : TypeId} {x : Operand} : aO E ops clk k (⟨d, .convert s t x, ty, pos, af, none⟩ :: os) K ⟨f, rows, bS, aP⟩ = aV (fun v => sU (E.ty s) (E.ty t) (aR f x) v) fun v => aO E ops clk (k + 1) os K ⟨put f d v, rows, bS, aP⟩ := by
 simp only [aO, yn, iN, ys, yv]; rw [cX (fun v => Iff.rfl)]; simp only [fD (op := .convert s t x) rfl]
theorem HC {i : Nat} {x : Operand} : aO E ops clk k (⟨d, .extract x i, ty, pos, af, none⟩ :: os) K ⟨f, rows, bS, aP⟩ = aV (fun v => OB i (aR f x) v) fun v => aO E ops clk (k + 1) os K ⟨put f d v, rows, bS, aP⟩ := by
 simp only [aO, yn, iN, ys, yv]; rw [cX (fun v => Iff.rfl)]; simp only [fD (op := .extract x i) rfl]
theorem WD {t : TypeId} {x : Operand} : aO E ops clk k (⟨d, .load t x, ty, pos, af, none⟩ :: os) K ⟨f, rows, bS, aP⟩ = aV (fun v => sR E t (eG .any ops k aP rows) (aR f x) v) fun v => aO E ops clk (k + 1) os K ⟨put f d v, rows, lF k (a9 (aR f x)) bS, aP⟩ := by
 simp only [aO, yn, iN, ys, yv]; rw [cX (fun v => Iff.rfl)]; simp only [rT (op := .load t x) rfl]; rfl
theorem PH {t : TypeId} {i : Nat} {x : Operand} : aO E ops clk k (⟨d, .field t x i, ty, pos, af, none⟩ :: os) K ⟨f, rows, bS, aP⟩ = aV (fun v => tH E t i (aR f x) v) fun v => aO E ops clk (k + 1) os K ⟨put f d v, rows, bS, aP⟩ := by
 simp only [aO, yn, iN, ys, yv]; rw [cX (fun v => Iff.rfl)]; simp only [fD (op := .field t x i) rfl]
theorem BE {t : TypeId} {i : Nat} {x : Operand} : aO E ops clk k (⟨d, .fieldAddr t x i, ty, pos, af, none⟩ :: os) K ⟨f, rows, bS, aP⟩ = aV (fun v => fJ E t (eG .any ops k aP rows) i (aR f x) v) fun v => aO E ops clk (k + 1) os K ⟨put f d v, rows, lF k (a9 (aR f x)) bS, aP⟩ := by
 simp only [aO, yn, iN, ys, yv]; rw [cX (fun v => Iff.rfl)]; simp only [rT (op := .fieldAddr t x i) rfl]; rfl
theorem BF {t : TypeId} {x y : Operand} : aO E ops clk k (⟨d, .indexAddr t x y, ty, pos, af, none⟩ :: os) K ⟨f, rows, bS, aP⟩ = aV (fun v => fK E t (eG .any ops k aP rows) (aR f x) (aR f y) v) fun v => aO E ops clk (k + 1) os K ⟨put f d v, rows, lF k (a9 (aR f x)) bS, aP⟩ := by
 simp only [aO, yn, iN, ys, yv]; rw [cX (fun v => Iff.rfl)]; simp only [rT (op := .indexAddr t x y) rfl]; rfl
theorem PJ {t : TypeId} {x : Operand} {lo hi mx : Option Operand} : aO E ops clk k (⟨d, .slice t x lo hi mx, ty, pos, af, none⟩ :: os) K ⟨f, rows, bS, aP⟩ = aV (fun v => nY E t (eG .any ops k aP rows) (aR f x) (lo.map (aR f)) (hi.map (aR f)) (mx.map (aR f)) v) fun v => aO E ops clk (k + 1) os K ⟨put f d v, rows, lF k (a9 (aR f x)) bS, aP⟩ := by
 simp only [aO, yn, iN, ys, yv]; rw [cX (fun v => Iff.rfl)]; simp only [rT (op := .slice t x lo hi mx) rfl]; rfl
theorem PK {t : TypeId} {parts : Array (Nat × Operand)} : aO E ops clk k (⟨d, .build t parts, ty, pos, af, none⟩ :: os) K ⟨f, rows, bS, aP⟩ = aV (fun v => qB (E.ty t) (parts.toList.map fun x => (x.1, aR f x.2)) v) fun v => aO E ops clk (k + 1) os K ⟨put f d v, rows, bS, aP⟩ := by
 simp only [aO, yn, iN, ys, yv]; rw [cX (fun v => Iff.rfl)]; simp only [fD (op := .build t parts) rfl]
theorem aaw {t : TypeId} {x : Operand} : aO E ops clk k (⟨d, .call { callee := .builtin .len, args := ⟨[x]⟩, argTypes := ⟨[t]⟩ }, ty, pos, af, none⟩ :: os) K ⟨f, rows, bS, aP⟩ = aV (fun v => x7 (E.ty t) (eG .any ops k aP rows) (aR f x) v) fun v => aO E ops clk (k + 1) os K ⟨put f d v, rows, lF k (a9 (aR f x)) bS, aP⟩ := by
 simp only [aO, yn, iN, ys, yv]; rw [cX (fun v => Iff.rfl)]; simp only [rT (op := .call { callee := .builtin .len, args := ⟨[x]⟩, argTypes := ⟨[t]⟩ }) rfl]; rfl
theorem EC {x : Operand} : aO E ops clk k (⟨d, .nilCheck x, ty, pos, af, none⟩ :: os) K ⟨f, rows, bS, aP⟩ = aV (fun v => D5 (eG .any ops k aP rows) (aR f x) v) fun v => aO E ops clk (k + 1) os K ⟨put f d v, rows, lF k (a9 (aR f x)) bS, aP⟩ := by
 simp only [aO, yn, iN, ys, yv]; rw [cX (fun v => Iff.rfl)]; simp only [rT (op := .nilCheck x) rfl]; rfl
theorem aax {ts : Array TypeId} {x y : Operand} : aO E ops clk k (⟨d, .call { callee := .builtin .max, args := ⟨[x, y]⟩, argTypes := ts }, ty, pos, af, none⟩ :: os) K ⟨f, rows, bS, aP⟩ = aV (fun v => OD (aR f x) (aR f y) v) fun v => aO E ops clk (k + 1) os K ⟨put f d v, rows, bS, aP⟩ := by
 simp only [aO, yn, iN, ys, yv]; rw [cX (fun v => Iff.rfl)]; simp only [fD (op := .call { callee := .builtin .max, args := ⟨[x, y]⟩, argTypes := ts }) rfl]
theorem aay {ts : Array TypeId} {x y : Operand} : aO E ops clk k (⟨d, .call { callee := .builtin .min, args := ⟨[x, y]⟩, argTypes := ts }, ty, pos, af, none⟩ :: os) K ⟨f, rows, bS, aP⟩ = aV (fun v => OE (aR f x) (aR f y) v) fun v => aO E ops clk (k + 1) os K ⟨put f d v, rows, bS, aP⟩ := by
 simp only [aO, yn, iN, ys, yv]; rw [cX (fun v => Iff.rfl)]; simp only [fD (op := .call { callee := .builtin .min, args := ⟨[x, y]⟩, argTypes := ts }) rfl]
theorem ED {g : FuncId} {b6 : Array Operand} : aO E ops clk k (⟨d, .makeFunc (.func g) ⟨[]⟩ b6, ty, pos, af, none⟩ :: os) K ⟨f, rows, bS, aP⟩ = aH ((b6.toList.map fun x => aR f x).all fW = true) (aO E ops clk (k + 1) os K ⟨put f d (.fn g (b6.toList.map fun x => aR f x)), rows, bS, aP⟩) := by
 simp only [aO, yn, iN, ys, yv]
 rw [cX (fun v => Iff.rfl), i9, jR]; simp only [fD (op := .makeFunc (.func g) ⟨[]⟩ b6) rfl]
theorem zE {t : TypeId} {len : Nat} {parts : Array (Nat × Operand)} : aO E ops clk k (⟨d, .buildSlice t len parts, ty, pos, af, none⟩ :: os) K ⟨f, rows, bS, aP⟩ = aV (fun v => OR (E.ty t) (eG .any ops k aP rows) len (parts.toList.map fun x => (x.1, aR f x.2)) v) fun v => aO E ops clk (k + 1) os K ⟨put f d v, rows, bS, aP⟩ := by
 simp only [aO, yn, iN, ys]; rw [cX (fun v => Iff.rfl)]; simp only [fD (op := .buildSlice t len parts) rfl]
theorem PL {t : TypeId} {p x : Operand} : aO E ops clk k (⟨none, .store t p x, ty, pos, af, none⟩ :: os) K ⟨f, rows, bS, aP⟩ =
  ∃ id r, qF E t (eG .any ops k aP rows) (aR f p) (aR f x) .undef (some (id, r)) ∧ A3 .any ops k id bS ∧ aO E ops clk (k + 1) os K ⟨f, dZ rows id (some r), lF k (a9 (aR f p) ++ ((bW (aR f x)).getD []).flatMap a9) bS, oY k id aP⟩ := by
 simp only [aO, yn, iN, ys]
 apply propext
 constructor
 ·rintro ⟨v, u, h, h1, h2⟩
  have h' := h
  obtain ⟨_, rfl, h3⟩ := h
  split at h3
  ·obtain ⟨_, _, _, _, _, _, _, _, _, _, rfl⟩ := h3
   exact ⟨_, _, h', h1, h2⟩
  ·exact h3.elim
 ·rintro ⟨id, r, h, h1, h2⟩; exact ⟨.undef, some (id, r), h, h1, h2⟩
theorem aaz {o : Oper} {R : PV → Option (Nat × Row) → Prop} {C : Prop} {v0 : PV} {e : Nat} {r0 : Row} {st : ST} {kF : Nat} (h : ∀ v u, R v u ↔ (C ∧ v = v0 ∧ u = some (e, r0))) : (∃ v u, R v u ∧ VZ .any ops k u bS ∧ aO E ops kF (k + 1) os K (app k o true v u st)) = aH (C ∧ A3 .any ops k e bS) (aO E ops kF (k + 1) os K (app k o true v0 (some (e, r0)) st)) := by
 apply propext; simp only [aH]
 constructor
 ·rintro ⟨v, u, h1, h2, h3⟩
  obtain ⟨hc, rfl, rfl⟩ := (h v u).1 h1
  exact ⟨⟨hc, h2⟩, h3⟩
 ·rintro ⟨⟨h1, h2⟩, h3⟩; exact ⟨v0, _, (h _ _).2 ⟨h1, rfl, rfl⟩, h2, h3⟩
theorem u6 {op : Op} {v : PV} {e : Nat} {r0 : Row} (h : iM op (aR f) = []) : app k ⟨d, op, ty, pos, af, none⟩ true v (some (e, r0)) ⟨f, rows, bS, aP⟩ = ⟨put f d v, dZ rows e (some r0), bS, oY k e aP⟩ := by simp only [app, gF, wlU, h, List.not_mem_nil, and_false, false_or]; rfl
theorem PM {t : TypeId} : aO E ops clk k (⟨d, .alloc t, ty, pos, af, none⟩ :: os) K ⟨f, rows, bS, aP⟩ = aH ((E.ty t).known = true ∧ A3 .any ops k (d.getD 0) bS) (aO E ops (clk + 1) (k + 1) os K ⟨put f d (.ptr (d.getD 0) clk 0 0), dZ rows (d.getD 0) (some ⟨clk, t, (E.ty t).size, [(E.ty t).zero]⟩), bS, oY k (d.getD 0) aP⟩) := by
 simp only [aO, yn, iN]
 rw [aaz (C := (E.ty t).known = true) (v0 := .ptr (d.getD 0) clk 0 0) (e := d.getD 0) (r0 := ⟨clk, t, (E.ty t).size, [(E.ty t).zero]⟩) (fun v u => by simp), u6 (op := .alloc t) rfl]
theorem aaA {t : TypeId} {x : Operand} : aO E ops clk k (⟨d, .box t x, ty, pos, af, none⟩ :: os) K ⟨f, rows, bS, aP⟩ = aH ((E.ty t).known = true) (∃ l, bW (aR f x) = some l ∧ ((∀ q ∈ l, iQ (fun _ => none) q) ∧ l.length = (E.ty t).size ∧ A3 .any ops k (d.getD 0) bS) ∧
  aO E ops (clk + 1) (k + 1) os K ⟨put f d (.ptr (d.getD 0) clk 0 0), dZ rows (d.getD 0) (some ⟨clk, t, (E.ty t).size, [l]⟩), bS, oY k (d.getD 0) aP⟩) := by
 simp only [aO, yn, iN]
 apply propext
 constructor
 ·rintro ⟨v, u, ⟨h1, l, h2, h3, h4, rfl, rfl⟩, h5, h6⟩
  rw [u6 (op := .box t x) rfl] at h6
  exact ⟨h1, l, h2, ⟨h3, h4, h5⟩, h6⟩
 ·rintro ⟨h1, l, h2, ⟨h3, h4, h5⟩, h6⟩
  refine ⟨_, _, ⟨h1, l, h2, h3, h4, rfl, rfl⟩, h5, ?_⟩
  rw [u6 (op := .box t x) rfl]; exact h6
theorem BG {t : TypeId} {l c : Operand} : aO E ops clk k (⟨d, .makeSlice t l c, ty, pos, af, none⟩ :: os) K ⟨f, rows, bS, aP⟩ = qK (E.ty t) (aR f l) (aR f c) fun e n z x => aH (A3 .any ops k (d.getD 0) bS) (aO E ops (clk + 1) (k + 1) os K ⟨put f d (.own (d.getD 0) clk 0 x.toNat), dZ rows (d.getD 0) (some ⟨clk, e, n, List.replicate x.toNat z⟩), bS, oY k (d.getD 0) aP⟩) := by
 have ZI : ∀ {v e' r0}, app k ⟨d, .makeSlice t l c, ty, pos, af, none⟩ true v (some (e', r0)) ⟨f, rows, bS, aP⟩ = ⟨put f d v, dZ rows e' (some r0), bS, oY k e' aP⟩ := u6 rfl
 simp only [aO, yn, iN, qK]
 generalize E.ty t = T
 generalize aR f l = A
 generalize aR f c = B
 cases T with
 | slice e n b z =>
  cases A with
  | int k1 x =>
   cases B with
   | int k2 y =>
    apply propext
    simp only [aH]
    constructor
    ·rintro ⟨v, u, ⟨h1, h2, h3, h4, rfl, rfl⟩, h5, h6⟩
     rw [ZI] at h6
     exact ⟨⟨h1, h2, h3, h4⟩, h5, h6⟩
    ·rintro ⟨⟨h1, h2, h3, h4⟩, h5, h6⟩
     refine ⟨_, _, ⟨h1, h2, h3, h4, rfl, rfl⟩, h5, ?_⟩
     rw [ZI]; exact h6
   | _ => simp
  | _ => simp
 | _ => simp
theorem KM {t t2 : TypeId} {x y : Operand} : aO E ops clk k (⟨d, .call { callee := .builtin .append, args := ⟨[x, y]⟩, argTypes := ⟨[t, t2]⟩ }, ty, pos, af, none⟩ :: os) K ⟨f, rows, bS, aP⟩ =
  aH (t2 = t ∨ ZN (E.ty t2) = true) (∃ v id r, qI (E.ty t) (eG .any ops k aP rows) (aR f x) (aR f y) clk (d.getD 0) v (some (id, r)) ∧ A3 .any ops k id bS ∧
   aO E ops (clk + 1) (k + 1) os K ⟨put f d v, dZ rows id (some r), lF k (a9 (aR f x) ++ a9 (aR f y)) bS, oY k id aP⟩) := by
 have ZI : ∀ {v e' r0}, app k ⟨d, .call { callee := .builtin .append, args := ⟨[x, y]⟩, argTypes := ⟨[t, t2]⟩ }, ty, pos, af, none⟩ true v (some (e', r0)) ⟨f, rows, bS, aP⟩ = ⟨put f d v, dZ rows e' (some r0), lF k (a9 (aR f x) ++ a9 (aR f y)) bS, oY k e' aP⟩ := rfl
 simp only [aO, yn, iN, aH]
 apply propext
 constructor
 ·rintro ⟨v, u, ⟨h1, h2⟩, h3, h4⟩
  refine ⟨h1, ?_⟩
  have h2' := h2
  unfold qI at h2'
  split at h2'
  ·obtain ⟨l, g1, g2, g3⟩ := h2'
   split at g3
   ·obtain ⟨_, _, rfl, rfl⟩ := g3
    exact ⟨_, _, _, h2, h3, h4⟩
   ·obtain ⟨r, _, _, _, _, _, _, _, _, rfl, rfl⟩ := g3
    exact ⟨_, _, _, h2, h3, h4⟩
   ·exact g3.elim
  ·exact h2'.elim
 ·rintro ⟨h1, v, id, r, h2, h3, h4⟩
  exact ⟨v, _, ⟨h1, h2⟩, h3, h4⟩
def oZ (E : Env) (p : PV) (gL : List PV) (rows : Rows) (K : PV → Prop) : Prop :=
 match p with
 | .fn g b6 => aH ((gL.map (pz rows)).all fW = true ∧ gL.flatMap dX = []) (u5 E.P g (gL.map (pz rows) ++ b6) K)
 | _ => False
@[congr] theorem aey {E : Env} {p p' : PV} {gL yI : List PV} {rows rows' : Rows} {K : PV → Prop} (h1 : p = p') (h2 : gL = yI) (h3 : rows = rows') : oZ E p gL rows K = oZ E p' yI rows' K := by rw [h1, h2, h3]
theorem E9 {fo : Operand} {args : Array Operand} {ts : Array TypeId} (hfo : dK E (.call { callee := .value fo, args := args, argTypes := ts }) = false) : aO E ops clk k (⟨d, .call { callee := .value fo, args := args, argTypes := ts }, ty, pos, af, none⟩ :: os) K ⟨f, rows, bS, aP⟩ =
  oZ E (aR f fo) (args.toList.map (aR f)) (eG .any ops k aP rows) fun v => aO E ops clk (k + 1) os K ⟨put f d v, rows, bS, aP⟩ := by
 simp only [aO]
 rw [A4 hfo]
 simp only [AZ hfo, ys, yD, oZ, aH, u5]
 generalize hA : aR f fo = A
 have e1 : (args.toList.map fun x => pz (eG .any ops k aP rows) (aR f x)) = (args.toList.map (aR f)).map (pz (eG .any ops k aP rows)) := by rw [List.map_map]; rfl
 have e2 : (args.toList.flatMap fun x => dX (aR f x)) = (args.toList.map (aR f)).flatMap dX := by rw [List.flatMap_map]
 rw [e1, e2]
 have e3 : ∀ v, app k ⟨d, .call { callee := .value fo, args := args, argTypes := ts }, ty, pos, af, none⟩ true v none ⟨f, rows, bS, aP⟩ = ⟨put f d v, rows, bS, aP⟩ := fun v => fD rfl
 cases A with
 | fn g b6 =>
  apply propext
  constructor
  ·rintro ⟨v, u, ⟨rfl, ⟨h1, h2⟩, h3⟩, _, h4⟩; rw [e3] at h4; exact ⟨⟨h1, h3⟩, v, h2, h4⟩
  ·rintro ⟨⟨h1, h3⟩, v, h2, h4⟩; exact ⟨v, none, ⟨rfl, ⟨h1, h2⟩, h3⟩, trivial, by rw [e3]; exact h4⟩
 | _ => simp
theorem PN {g : FuncId} {args : Array Operand} {ts : Array TypeId} (hw : E.writes g = true) : aO E ops clk k (⟨d, .call { callee := .value (.func g), args := args, argTypes := ts }, ty, pos, af, none⟩ :: os) K ⟨f, rows, bS, aP⟩ =
  ∃ e n els, ((args.toList.map (aR f)).all fW = true ∧ iD E.P g (args.toList.map (aR f)) e n els ∧ A3 .any ops k (d.getD 0) bS) ∧ aO E ops (clk + 1) (k + 1) os K ⟨put f d (.own (d.getD 0) clk 0 els.length), dZ rows (d.getD 0) (some ⟨clk, e, n, els⟩), bS, oY k (d.getD 0) aP⟩ := by
 have ZI : ∀ {v e' r0}, app k ⟨d, .call { callee := .value (.func g), args := args, argTypes := ts }, ty, pos, af, none⟩ true v (some (e', r0)) ⟨f, rows, bS, aP⟩ = ⟨put f d v, dZ rows e' (some r0), bS, oY k e' aP⟩ := u6 rfl
 simp only [aO, yn, iN]
 rw [if_pos hw]
 simp only [if_pos hw]
 apply propext
 constructor
 ·rintro ⟨v, u, ⟨h1, e, n, els, h2, rfl, rfl⟩, h3, h4⟩
  rw [ZI] at h4
  exact ⟨e, n, els, ⟨h1, h2, h3⟩, h4⟩
 ·rintro ⟨e, n, els, ⟨h1, h2, h3⟩, h4⟩
  refine ⟨_, _, ⟨h1, e, n, els, h2, rfl, rfl⟩, h3, ?_⟩
  rw [ZI]; exact h4
@[simp] theorem aoV {md : Region.Mode} {ops : List Oper} {j : Nat} {rows : Rows} : eG md ops j (fun _ _ => False) rows = rows := by
 funext id; simp [eG]
@[simp] theorem aoW {md : Region.Mode} {ops : List Oper} {j k id : Nat} {w : Nat → Nat → Prop} {rows : Rows} : eG md ops j (oY k id w) rows = if oW md ops j k = true then eG md ops j w rows else dZ (eG md ops j w rows) id none := by
 funext x
 unfold eG oY
 by_cases hd : oW md ops j k = true
 ·rw [if_pos hd]
  have : (∃ k', ((k' = k ∧ x = id) ∨ w k' x) ∧ oW md ops j k' = false) ↔ ∃ k', w k' x ∧ oW md ops j k' = false := by
   constructor
   ·rintro ⟨k', ⟨rfl, _⟩ | h, h2⟩
    ·rw [hd] at h2; cases h2
    ·exact ⟨k', h, h2⟩
   ·rintro ⟨k', h, h2⟩; exact ⟨k', .inr h, h2⟩
  exact (by classical exact ite_congr (propext this) (fun _ => rfl) (fun _ => rfl))
 ·rw [if_neg hd]
  have Z4 : oW md ops j k = false := by simpa using hd
  simp only [dZ]
  by_cases hx : x = id
  ·rw [if_pos hx, if_pos ⟨k, .inl ⟨rfl, hx⟩, Z4⟩]
  ·rw [if_neg hx]
   have : (∃ k', ((k' = k ∧ x = id) ∨ w k' x) ∧ oW md ops j k' = false) ↔ ∃ k', w k' x ∧ oW md ops j k' = false := by
    constructor
    ·rintro ⟨k', ⟨_, h⟩ | h, h2⟩
     ·exact absurd h hx
     ·exact ⟨k', h, h2⟩
    ·rintro ⟨k', h, h2⟩; exact ⟨k', .inr h, h2⟩
   exact (by classical exact ite_congr (propext this) (fun _ => rfl) (fun _ => rfl))
@[simp] theorem asP {md : Region.Mode} {ops : List Oper} {i id : Nat} : A3 md ops i id (fun _ _ => False) = True := by simp [A3]
@[simp] theorem asQ {md : Region.Mode} {ops : List Oper} {i id k : Nat} {l : List Nat} {t : Nat → Nat → Prop} : A3 md ops i id (lF k l t) = ((id ∈ l → oW md ops i k = true) ∧ A3 md ops i id t) := by
 apply propext
 unfold A3 lF
 constructor
 ·intro h; exact ⟨fun hi => h k (.inl ⟨rfl, rfl, hi⟩), fun k' hk => h k' (.inr hk)⟩
 ·rintro ⟨h1, h2⟩ k' (⟨_, rfl, h⟩ | h)
  ·exact h1 h
  ·exact h2 k' h
end
end Pm
