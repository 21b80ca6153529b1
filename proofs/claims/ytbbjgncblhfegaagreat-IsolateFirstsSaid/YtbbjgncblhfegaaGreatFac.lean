import Derived.StillTail
import Derived.Deep.LoopGhost
import Derived.Test.YtbbjgncblhfegaaGreatFab
set_option linter.unusedSimpArgs false
set_option linter.unusedVariables false
namespace Pm
open Go Go.RowKit
def fO (P : Program) (f : FuncId) (args : List PV) (e : TypeId) (n : Nat) (els : List (List PV)) : Prop :=
 (∃ fn c, P.funcs[f]? = some fn ∧ fn.body = some c ∧ (fn.name == "runtime.NumGoroutine") = false) ∧
 ∀ (w : World) (S : dF) (vs : List Value), (∀ b o, S b o → b < w.heap.size) → bK S w args vs →
  Calls P f vs.toArray w fun x w' => ∃ (v : Value) (xs : List Value) (S' : dF), x = .returned v ∧ Below w.heap.size w w' ∧ (∀ b o, S b o → S' b o) ∧ (∀ b o, S' b o → S b o ∨ (w.heap.size ≤ b ∧ b < w'.heap.size)) ∧
   w'.ownsRow w.heap.size e n v els.length xs ∧ bB (cP S' w') els.flatten xs ∧ (∀ y ∈ xs, y.oneCell' = true) ∧ (∀ x ∈ els, x.length = n) ∧ 0 < n ∧ (∀ g o, v.ownBlock = some g → ¬ S' g o)
def S3 (md : Region.Mode) (ops : List Oper) (j k : Nat) : Bool :=
 match ops[j]? with
 | some o => o.after.toList.any fun e => Region.binds md e && e.on == k
 | none => false
def nT (md : Region.Mode) (ops : List Oper) (j k : Nat) : Bool := S3 md ops j k || (List.range ops.length).any fun h => S3 md ops j h && S3 md ops h k
structure ST where
 f : Nat → PV
 rows : Rows
 bN : Nat → Nat → Prop
 wl : Nat → Nat → Prop
def cZ (E : Env) : Op → Bool
 | .alloc _ => true
 | .box _ _ => true
 | .makeSlice _ _ _ => true
 | .call { callee := .builtin .append, args := ⟨[_, _]⟩, argTypes := ⟨[_, _]⟩ } => true
 | .call { callee := .value (.func g), args := _, argTypes := _ } => E.writes g
 | _ => false
def rZ (E : Env) (ops : List Oper) : Bool := ops.all fun o => !cZ E o.op || (o.dst.isSome && o.guard.isNone)
def rk (E : Env) (ops : List Oper) (i : Nat) : Nat := ((ops.take i).filter fun o => cZ E o.op).length
theorem P3 {E : Env} {ops : List Oper} {i : Nat} {o : Oper} (h : ops[i]? = some o) : rk E ops (i + 1) = rk E ops i + if cZ E o.op = true then 1 else 0 := by
 unfold rk
 rw [List.take_add_one, h]
 simp only [Option.toList_some, List.filter_append, List.length_append]
 congr 1
 cases hn : cZ E o.op <;> simp [hn]
theorem acr {E : Env} {ops : List Oper} {i j : Nat} (h : i ≤ j) : rk E ops i ≤ rk E ops j := by
 unfold rk
 have : (ops.take i).Sublist (ops.take j) := by
  have := List.take_sublist i (ops.take j)
  rwa [List.take_take, Nat.min_eq_left h] at this
 exact (this.filter _).length_le
theorem WW {E : Env} {ops : List Oper} {i j : Nat} {o : Oper} (h : ops[i]? = some o) (hn : cZ E o.op = true) (hij : i < j) : rk E ops i < rk E ops j := by
 have h1 := P3 (E := E) h
 rw [if_pos hn] at h1
 have := acr (E := E) (ops := ops) (show i + 1 ≤ j from hij)
 omega
theorem aho {E : Env} {ops : List Oper} {i j : Nat} {o o' : Oper} (h : ops[i]? = some o) (hn : cZ E o.op = true) (h' : ops[j]? = some o') (wL : cZ E o'.op = true) (he : rk E ops i = rk E ops j) : i = j := by
 rcases Nat.lt_trichotomy i j with h1 | h1 | h1
 ·have := WW h hn h1; omega
 ·exact h1
 ·have := WW h' wL h1; omega
def pA (t : TI) (rows : Rows) (x y : PV) (c0 d : Nat) (v : PV) (u : Option (Nat × Row)) : Prop :=
 match t with
 | .slice e n b _ => ∃ l, s8 rows y l ∧ (∀ e ∈ l, e.length = n) ∧
  match x with
  | .nil => l.length ≤ room ∧ l.length * b ≤ room ∧ v = .own d c0 0 l.length ∧ u = some (d, ⟨c0, e, n, l⟩)
  | .own id ver off len => ∃ r, rows id = some r ∧ r.ver = ver ∧ off = 0 ∧ len = r.els.length ∧ r.e = e ∧ r.size = n ∧ len + l.length ≤ room ∧ (len + l.length) * b ≤ room ∧
    v = .own id c0 0 (len + l.length) ∧ u = some (id, ⟨c0, e, n, r.els ++ l⟩)
  | _ => False
 | _ => False
def afb (E : Env) (g : FuncId) (args : List PV) (c0 d : Nat) (v : PV) (u : Option (Nat × Row)) : Prop :=
 args.all fA = true ∧ ∃ e n els, fO E.P g args e n els ∧ v = .own d c0 0 els.length ∧ u = some (d, ⟨c0, e, n, els⟩)
def yn (E : Env) (c0 : Nat) (d : Option Tmp) (op : Op) (ρ : Operand → PV) (rows : Rows) (v : PV) (u : Option (Nat × Row)) : Prop :=
 match op with
 | .alloc t => (E.ty t).known = true ∧ v = .ptr (d.getD 0) c0 0 0 ∧ u = some (d.getD 0, ⟨c0, t, (E.ty t).size, [(E.ty t).zero]⟩)
 | .box t x => (E.ty t).known = true ∧ ∃ l, bR (ρ x) = some l ∧ (∀ q ∈ l, gV (fun _ => none) q) ∧ l.length = (E.ty t).size ∧ v = .ptr (d.getD 0) c0 0 0 ∧ u = some (d.getD 0, ⟨c0, t, (E.ty t).size, [l]⟩)
 | .makeSlice t l c =>
  match E.ty t, ρ l, ρ c with
  | .slice e n b z, .int _ x, .int _ y => 0 ≤ x ∧ x ≤ y ∧ y.toNat ≤ room ∧ y.toNat * b ≤ room ∧ v = .own (d.getD 0) c0 0 x.toNat ∧ u = some (d.getD 0, ⟨c0, e, n, List.replicate x.toNat z⟩)
  | _, _, _ => False
 | .call { callee := .builtin .append, args := ⟨[x, y]⟩, argTypes := ⟨[t, t2]⟩ } => (t2 = t ∨ WO (E.ty t2) = true) ∧ pA (E.ty t) rows (ρ x) (ρ y) c0 (d.getD 0) v u
 | .call { callee := .value (.func g), args := aAV, argTypes := ts } => if E.writes g = true then afb E g (aAV.toList.map fun x => ρ x) c0 (d.getD 0) v u else ys E (.call { callee := .value (.func g), args := aAV, argTypes := ts }) ρ rows v u
 | op => ys E op ρ rows v u
theorem y7 {E : Env} {c0 : Nat} {d : Option Tmp} {op : Op} {ρ : Operand → PV} {rows : Rows} {v : PV} {u : Option (Nat × Row)} (h : cZ E op = false) : yn E c0 d op ρ rows v u = ys E op ρ rows v u := by
 unfold yn
 split
 all_goals first
  | rfl
  | (simp [cZ] at h; done)
  | (simp only [cZ] at h; rw [if_neg (by rw [h]; decide)])
theorem lZ {E : Env} {op : Op} {C : Prop} (h : cZ E op = true) (h1 : ∀ t, op = .alloc t → C) (h2 : ∀ t x, op = .box t x → C) (h3 : ∀ t l c, op = .makeSlice t l c → C)
  (h4 : ∀ x y t t2, op = .call { callee := .builtin .append, args := ⟨[x, y]⟩, argTypes := ⟨[t, t2]⟩ } → C) (h5 : ∀ g aAV ts, op = .call { callee := .value (.func g), args := aAV, argTypes := ts } → E.writes g = true → C) : C := by
 unfold cZ at h
 split at h
 ·exact h1 _ rfl
 ·exact h2 _ _ rfl
 ·exact h3 _ _ _ rfl
 ·exact h4 _ _ _ _ rfl
 ·exact h5 _ _ _ rfl h
 ·cases h
theorem acs {rows rows' : Rows} {y : PV} {l : List (List PV)} (h : i6 (a9 y) rows rows') (hy : s8 rows y l) : s8 rows' y l ∧ ∀ id ∈ a9 y, ∃ r, rows id = some r := by
 unfold s8 at *
 cases y with
 | own id ver off len =>
  obtain ⟨r, hr, hh⟩ := hy
  exact ⟨⟨r, h id (by simp [a9]) r hr, hh⟩, by simp [a9]; exact ⟨r, hr⟩⟩
 | nil => exact ⟨hy, by simp [a9]⟩
 | sl l => exact ⟨hy, by simp [a9]⟩
 | i3 l => exact ⟨hy, by simp [a9]⟩
 | _ => exact hy.elim
theorem WX {t : TI} {rows rows' : Rows} {x y v : PV} {c0 d : Nat} {u : Option (Nat × Row)} (h : i6 (a9 x ++ a9 y) rows rows') (hy : pA t rows x y c0 d v u) : pA t rows' x y c0 d v u ∧ ∀ id ∈ a9 x ++ a9 y, ∃ r, rows id = some r := by
 unfold pA at *
 cases t with
 | slice e n b z =>
  obtain ⟨l, h1, h2, h3⟩ := hy
  obtain ⟨g1, g2⟩ := acs (fun id gN => h id (by simp only [List.mem_append]; exact .inr gN)) h1
  cases x with
  | nil => exact ⟨⟨l, g1, h2, h3⟩, fun id gN => g2 id (by simpa [a9] using gN)⟩
  | own id ver off len =>
   obtain ⟨r, hr, hh⟩ := h3
   refine ⟨⟨l, g1, h2, r, h id (by simp [a9]) r hr, hh⟩, fun iX gN => ?_⟩
   simp only [a9, List.mem_append, List.mem_cons, List.not_mem_nil, or_false] at gN
   rcases gN with rfl | gN
   ·exact ⟨r, hr⟩
   ·exact g2 iX gN
  | _ => exact h3.elim
 | _ => exact hy.elim
theorem P4 {E : Env} {c0 : Nat} {d : Option Tmp} {op : Op} {ρ : Operand → PV} {rows rows' : Rows} {v : PV} {u : Option (Nat × Row)} (h : i6 (gQ op ρ) rows rows') (hy : yn E c0 d op ρ rows v u) :
  yn E c0 d op ρ rows' v u ∧ (∀ id ∈ gQ op ρ, ∃ r, rows id = some r) ∧ ∀ id r, u = some (id, r) → (cZ E op = true ∧ id = d.getD 0) ∨ id ∈ gQ op ρ := by
 cases hn : cZ E op with
 | false =>
  rw [y7 hn] at hy ⊢
  obtain ⟨h1, h2, h3⟩ := afa h hy
  exact ⟨h1, h2, fun id r hu => .inr (h3 id r hu)⟩
 | true =>
  refine lZ hn ?_ ?_ ?_ ?_ ?_
  ·rintro t rfl
   refine ⟨hy, by simp [gQ], fun id r hu => .inl ⟨by first | trivial | rfl, ?_⟩⟩
   obtain ⟨_, _, rfl⟩ := hy
   simp at hu; exact hu.1.symm
  ·rintro t x rfl
   refine ⟨hy, by simp [gQ], fun id r hu => .inl ⟨by first | trivial | rfl, ?_⟩⟩
   obtain ⟨_, _, _, _, _, _, rfl⟩ := hy
   simp at hu; exact hu.1.symm
  ·rintro t l c rfl
   refine ⟨hy, by simp [gQ], fun id r hu => .inl ⟨by first | trivial | rfl, ?_⟩⟩
   simp only [yn] at hy
   split at hy
   ·obtain ⟨_, _, _, _, _, rfl⟩ := hy
    simp at hu; exact hu.1.symm
   ·exact hy.elim
  ·rintro x y t t2 rfl
   simp only [yn, gQ] at hy h ⊢
   obtain ⟨h2, h3⟩ := hy
   obtain ⟨g1, g2⟩ := WX h h3
   refine ⟨⟨h2, g1⟩, g2, fun id r hu => ?_⟩
   unfold pA at h3
   split at h3
   ·obtain ⟨l, _, _, h3⟩ := h3
    split at h3
    ·obtain ⟨_, _, _, rfl⟩ := h3
     simp at hu; exact .inl ⟨by first | trivial | rfl, hu.1.symm⟩
    ·rename_i hx
     obtain ⟨_, _, _, _, _, _, _, _, _, _, rfl⟩ := h3
     simp at hu
     rw [hx]
     exact .inr (by simp [a9, hu.1])
    ·exact h3.elim
   ·exact h3.elim
  ·rintro g aAV ts rfl hw
   simp only [yn] at hy ⊢
   rw [if_pos hw] at hy
   rw [if_pos hw]
   refine ⟨hy, by simp [gQ], fun id r hu => .inl ⟨by first | trivial | exact hw, ?_⟩⟩
   obtain ⟨_, _, _, _, _, _, rfl⟩ := hy
   simp at hu; exact hu.1.symm
open Classical in
noncomputable def dR (md : Region.Mode) (ops : List Oper) (j : Nat) (wl : Nat → Nat → Prop) (rows : Rows) : Rows := fun id => if ∃ k, wl k id ∧ nT md ops j k = false then none else rows id
theorem jQ {md : Region.Mode} {ops : List Oper} {j id : Nat} {wl : Nat → Nat → Prop} {rows : Rows} {r : Row} : dR md ops j wl rows id = some r ↔ (∀ k, wl k id → nT md ops j k = true) ∧ rows id = some r := by
 unfold dR
 split
 ·rename_i h
  obtain ⟨k, h1, h2⟩ := h
  simp only [reduceCtorEq, false_iff, not_and]
  intro h3
  rw [h3 k h1] at h2; cases h2
 ·rename_i h
  refine ⟨fun h2 => ⟨fun k hk => ?_, h2⟩, fun h2 => h2.2⟩
  cases hd : nT md ops j k with
  | true => rfl
  | false => exact absurd ⟨k, hk, hd⟩ h
def y8 (md : Region.Mode) (ops : List Oper) (i id : Nat) (bN : Nat → Nat → Prop) : Prop := ∀ k, bN k id → nT md ops i k = true
def S4 (md : Region.Mode) (ops : List Oper) (i : Nat) (u : Option (Nat × Row)) (bN : Nat → Nat → Prop) : Prop :=
 match u with
 | none => True
 | some (id, _) => y8 md ops i id bN
def gOK (ops : Array Oper) (o : Oper) (f : Nat → PV) (b : Bool) : Prop :=
 match o.guard with
 | none => b = true
 | some (j, want) => ∃ d, (ops[j]?).bind (·.dst) = some d ∧ ((f d = .bool want ∧ b = true) ∨ ((f d = .bool (!want) ∨ f d = .dP []) ∧ b = false))
def YG (E : Env) (md : Region.Mode) (ops : Array Oper) (c0 : Nat) (i : Nat) (o : Oper) (b : Bool) (v : PV) (u : Option (Nat × Row)) (st : ST) : Prop :=
 gOK ops o st.f b ∧ if b = true then yn E (c0 + rk E ops.toList i) o.dst o.op (aR st.f) (dR md ops.toList i st.wl st.rows) v u else v = .dP [] ∧ u = none
def wlU (i : Nat) (u : Option (Nat × Row)) (wl : Nat → Nat → Prop) : Nat → Nat → Prop :=
 match u with
 | none => wl
 | some (id, _) => fun k iX => (k = i ∧ iX = id) ∨ wl k iX
def app (i : Nat) (o : Oper) (b : Bool) (v : PV) (u : Option (Nat × Row)) (st : ST) : ST :=
 { f := put st.f o.dst v, rows := fC st.rows u, bN := fun k id => (b = true ∧ k = i ∧ id ∈ gQ o.op (aR st.f)) ∨ st.bN k id, wl := wlU i u st.wl }
def gR (E : Env) (op : Op) (clk : Nat) : Nat :=
 match op with
 | .alloc _ => clk + 1
 | .box _ _ => clk + 1
 | .makeSlice _ _ _ => clk + 1
 | .call { callee := .builtin .append, args := ⟨[_, _]⟩, argTypes := ⟨[_, _]⟩ } => clk + 1
 | .call { callee := .value (.func g), args := _, argTypes := _ } => if E.writes g = true then clk + 1 else clk
 | _ => clk
theorem y9 {E : Env} {op : Op} {clk : Nat} (h : cZ E op = false) : gR E op clk = clk := by
 unfold gR
 split
 all_goals first
  | rfl
  | (simp [cZ] at h; done)
  | (simp only [cZ] at h; rw [if_neg (by rw [h]; decide)])
theorem WY {E : Env} {op : Op} {clk : Nat} (h : cZ E op = true) : gR E op clk = clk + 1 := by
 refine lZ h ?_ ?_ ?_ ?_ ?_
 ·rintro t rfl; rfl
 ·rintro t x rfl; rfl
 ·rintro t l c rfl; rfl
 ·rintro x y t t2 rfl; rfl
 ·rintro g aAV ts rfl hw; simp only [gR]; rw [if_pos hw]
theorem acv {E : Env} {ops : List Oper} {i c0 : Nat} {o : Oper} (h : ops[i]? = some o) : gR E o.op (c0 + rk E ops i) = c0 + rk E ops (i + 1) := by
 rw [P3 h]
 cases hn : cZ E o.op with
 | false => rw [y9 hn]; simp
 | true => rw [WY hn]; simp; omega
def WZ (E : Env) (md : Region.Mode) (ops : Array Oper) (c0 : Nat) (i : Nat) (K : ST → Prop) (st : ST) : Prop :=
 match ops[i]? with
 | none => K st
 | some o => ∃ b v u, YG E md ops c0 i o b v u st ∧ S4 md ops.toList i u st.bN ∧ K (app i o b v u st)
section
variable {E : Env} {ops : Array Oper} {md : Region.Mode}
theorem W1 {c0 i : Nat} {K K' : ST → Prop} {st : ST} (h : ∀ st, K st → K' st) (hh : WZ E md ops c0 i K st) : WZ E md ops c0 i K' st := by
 unfold WZ at *
 split
 ·exact h _ (by simpa [*] using hh)
 ·rename_i o ho
  simp only [ho] at hh
  obtain ⟨b, v, u, h1, h2, h3⟩ := hh
  exact ⟨b, v, u, h1, h2, h _ h3⟩
theorem P5 {f : Nat → PV} {d : Option Tmp} {v : PV} {x : Operand} (h : ∀ t, d = some t → x ≠ .tmp t) : aR (put f d v) x = aR f x := by
 cases d with
 | none => rfl
 | some t =>
  cases x with
  | tmp s =>
   have : s ≠ t := fun e => h t rfl (by rw [e])
   simp [aR, put, this]
  | _ => rfl
theorem W2 {op : Op} {ρ ρ' : Operand → PV} {rows : Rows} {v : PV} {u : Option (Nat × Row)} (h : ∀ x ∈ op.operands, ρ x = ρ' x) : ys E op ρ rows v u ↔ ys E op ρ' rows v u := by
 have parts : ∀ ps : Array (Nat × Operand), (∀ x ∈ (ps.toList.map (·.2)).toArray, ρ x = ρ' x) → (ps.toList.map fun x => (x.1, ρ x.2)) = ps.toList.map fun x => (x.1, ρ' x.2) := fun ps hp =>
  List.map_congr_left fun p hm => by rw [hp p.2 (by simp; exact ⟨p.1, by simpa using hm⟩)]
 have args : ∀ (c : Call), (∀ x ∈ c.operands, ρ x = ρ' x) → ∀ x ∈ c.args.toList, ρ x = ρ' x := fun c hc x hx => hc x (by simp [Call.operands]; exact .inr (by simpa using hx))
 unfold ys
 split
 ·rename_i t p x
  rw [h p (by simp [Op.operands]), h x (by simp [Op.operands])]
 ·rename_i t len ps
  rw [parts ps (by simpa [Op.operands] using h)]
 ·rename_i f aAV ts
  have ha := args _ (by simpa [Op.operands] using h)
  simp only at ha
  rw [h f (by simp [Op.operands, Call.operands]), List.map_congr_left (g := fun x => pz rows (ρ' x)) fun x hx => by rw [ha x hx]]
  have : (aAV.toList.flatMap fun x => dG (ρ x)) = aAV.toList.flatMap fun x => dG (ρ' x) := by
   rw [List.flatMap_def, List.flatMap_def]
   congr 1
   exact List.map_congr_left fun x hx => by rw [ha x hx]
  rw [this]
 ·suffices hs : yv E op ρ rows v ↔ yv E op ρ' rows v by rw [hs]
  unfold yv
  split
  case h_12 =>
   rename_i t x lo hi mx _ _ _
   have o1 : ∀ y : Option Operand, (∀ z, y = some z → ρ z = ρ' z) → y.map ρ = y.map ρ' := by
    intro y hy; cases y with
    | none => rfl
    | some z => simp [hy z rfl]
   rw [h x (by simp [Op.operands]), o1 lo fun z hz => h z (by subst hz; simp [Op.operands]), o1 hi fun z hz => h z (by subst hz; simp [Op.operands]), o1 mx fun z hz => h z (by subst hz; simp [Op.operands])]
  case h_13 => rename_i t ps _ _ _; rw [parts ps (by simpa [Op.operands] using h)]
  case h_15 =>
   rename_i f cD _ _ _
   rw [List.map_congr_left (l := cD.toList) (f := fun x => ρ x) (g := fun x => ρ' x) fun x hx => h x (by simp [Op.operands]; simpa using hx)]
  all_goals first
   | rfl
   | (simp only [Op.operands, Call.operands] at h; simp [h])
theorem zA {op : Op} {ρ ρ' : Operand → PV} (h : ∀ x ∈ op.operands, ρ x = ρ' x) : gQ op ρ = gQ op ρ' := by
 unfold gQ
 split
 all_goals first
  | rfl
  | (simp only [Op.operands, Call.operands] at h; simp [h])
theorem HQ {c0 : Nat} {d : Option Tmp} {op : Op} {ρ ρ' : Operand → PV} {rows : Rows} {v : PV} {u : Option (Nat × Row)} (h : ∀ x ∈ op.operands, ρ x = ρ' x) : yn E c0 d op ρ rows v u ↔ yn E c0 d op ρ' rows v u := by
 cases hn : cZ E op with
 | false => rw [y7 hn, y7 hn]; exact W2 h
 | true =>
  refine lZ hn ?_ ?_ ?_ ?_ ?_
  ·rintro t rfl; exact Iff.rfl
  ·rintro t x rfl
   simp only [yn]
   rw [h x (by simp [Op.operands])]
  ·rintro t l c rfl
   simp only [yn]
   rw [h l (by simp [Op.operands]), h c (by simp [Op.operands])]
  ·rintro x y t t2 rfl
   simp only [yn]
   rw [h x (by simp [Op.operands, Call.operands]), h y (by simp [Op.operands, Call.operands])]
  ·rintro g aAV ts rfl hw
   simp only [yn]
   rw [if_pos hw, if_pos hw, List.map_congr_left (l := aAV.toList) (f := fun x => ρ x) (g := fun x => ρ' x) fun x hx => h x (by simp [Op.operands, Call.operands]; exact .inr (by simpa using hx))]
theorem HR {o : Oper} {d : Tmp} {x : Operand} (h : d ∉ o.looksAt ops) (hx : x ∈ o.op.operands) : x ≠ .tmp d := by
 rintro rfl
 exact h (List.mem_append_left _ (List.mem_filterMap.2 ⟨.tmp d, by simpa using hx, rfl⟩))
theorem ME {c : Cx} : aK c (.dP []) undef := by
 show cP c.S c.w (.dP []) undef
 simp only [cP]
 exact ⟨[], rfl, rfl⟩
theorem gJ {c : Cx} {tmps : Array Value} {j : Nat} {d : Tmp} {t : Bool} (h1 : (ops[j]?).bind (·.dst) = some d) (h : aK c (.bool t) (tmps.getD d undef)) : yielded ops tmps j = some t := by
 rw [c8] at h
 unfold yielded
 rw [h1]
 simp only [Option.bind_some]
 cases hx : tmps[d]? with
 | none => simp [hx] at h; cases h
 | some y =>
  have hy : y = .bool t := by simpa [hx] using h
  rw [hy]
theorem r5 {c : Cx} {tmps : Array Value} {j : Nat} {d : Tmp} (h1 : (ops[j]?).bind (·.dst) = some d) (h : aK c (.dP []) (tmps.getD d undef)) : yielded ops tmps j = none := by
 have h2 : tmps.getD d undef = .tuple #[] := by
  have h3 : cP c.S c.w (.dP []) (tmps.getD d undef) := h
  simp only [cP] at h3
  obtain ⟨vs, h4, h5⟩ := h3
  simp only [bK] at h5
  rw [h4, h5]
 unfold yielded
 rw [h1]
 simp only [Option.bind_some]
 cases hx : tmps[d]? with
 | none => rfl
 | some y =>
  have hy : y = .tuple #[] := by simpa [hx] using h2
  rw [hy]
theorem P6 {o : Oper} {f : Nat → PV} {dd : Option Tmp} {v : PV} {b : Bool} (h : ∀ d, dd = some d → d ∉ o.looksAt ops) : gOK ops o (put f dd v) b ↔ gOK ops o f b := by
 unfold gOK
 cases hg : o.guard with
 | none => rfl
 | some g =>
  obtain ⟨j, want⟩ := g
  simp only
  have key : ∀ d, (ops[j]?).bind (·.dst) = some d → put f dd v d = f d := by
   intro d h1
   cases dd with
   | none => rfl
   | some e =>
    have sZ : d ≠ e := by
     rintro rfl
     exact h d rfl (List.mem_append_right _ (by simp [hg, h1]))
    simp [put, sZ]
  constructor
  ·rintro ⟨d, h1, h2⟩
   rw [key d h1] at h2
   exact ⟨d, h1, h2⟩
  ·rintro ⟨d, h1, h2⟩
   rw [← key d h1] at h2
   exact ⟨d, h1, h2⟩
theorem put_comm {f : Nat → PV} {x y : Option Tmp} {v u : PV} (h : ∀ d, x = some d → y ≠ some d) : put (put f x v) y u = put (put f y u) x v := by
 cases x with
 | none => rfl
 | some d =>
  cases y with
  | none => rfl
  | some e =>
   have sZ : d ≠ e := fun he => h d rfl (by rw [he])
   funext j
   simp only [put]
   split <;> split <;> simp_all
theorem zB {rows : Rows} {u : Option (Nat × Row)} {j : Nat} (h : ∀ r, u ≠ some (j, r)) : fC rows u j = rows j := by
 cases u with
 | none => rfl
 | some x =>
  obtain ⟨i, r⟩ := x
  simp only [fC, dJ]
  rw [if_neg]
  rintro rfl
  exact h r rfl
theorem nU {i : Nat} {u : Option (Nat × Row)} {wl : Nat → Nat → Prop} {k id : Nat} : wlU i u wl k id ↔ (k = i ∧ ∃ r, u = some (id, r)) ∨ wl k id := by
 cases u with
 | none => simp [wlU]
 | some x =>
  obtain ⟨iX, r⟩ := x
  simp only [wlU, Option.some.injEq, Prod.mk.injEq]
  constructor
  ·rintro (⟨h1, h2⟩ | h)
   ·exact .inl ⟨h1, r, h2.symm, rfl⟩
   ·exact .inr h
  ·rintro (⟨h1, r', h2, _⟩ | h)
   ·exact .inl ⟨h1, h2.symm⟩
   ·exact .inr h
theorem E4 {i : Nat} {u : Option (Nat × Row)} {bN : Nat → Nat → Prop} : S4 md ops.toList i u bN ↔ ∀ id r, u = some (id, r) → ∀ k, bN k id → nT md ops.toList i k = true := by
 cases u with
 | none => simp [S4]
 | some x =>
  obtain ⟨iX, r⟩ := x
  simp only [S4, y8, Option.some.injEq, Prod.mk.injEq]
  constructor
  ·rintro h _ _ ⟨rfl, _⟩; exact h
  ·intro h; exact h _ _ ⟨rfl, rfl⟩
theorem acw {c0 i j : Nat} {oi oj : Oper} {bi : Bool} {vi : PV} {ui : Option (Nat × Row)} (hj : ops[j]? = some oj) (WI : oi.apart ops oj = true) (hds : cZ E oi.op = true → oi.dst.isSome = true) (asn : cZ E oj.op = true → oj.dst.isSome = true) (hdj : nT md ops.toList j i = false) {K : ST → Prop} {st : ST}
  (hy : YG E md ops c0 i oi bi vi ui st) (ho : S4 md ops.toList i ui st.bN) (h : WZ E md ops c0 j K (app i oi bi vi ui st)) :
  WZ E md ops c0 j (fun P7 => YG E md ops c0 i oi bi vi ui P7 ∧ S4 md ops.toList i ui P7.bN ∧ K (app i oi bi vi ui P7)) st := by
 obtain ⟨h1, h2, h3⟩ := Oper.apart_spec WI
 unfold WZ at h ⊢
 simp only [hj] at h ⊢
 obtain ⟨bj, vj, uj, ⟨hgj, hyj⟩, hoj, hK⟩ := h
 obtain ⟨hgi, S5⟩ := hy
 rw [E4] at hoj ho
 have ej : ∀ x ∈ oj.op.operands, aR (put st.f oi.dst vi) x = aR st.f x := fun x hx => P5 fun t ht => HR (h1 t ht) hx
 have ei : ∀ x ∈ oi.op.operands, aR (put st.f oj.dst vj) x = aR st.f x := fun x hx => P5 fun t ht => HR (h3 t ht) hx
 have aso : gOK ops oj st.f bj := (P6 h1).1 hgj
 have hnw : ∀ id r, dR md ops.toList j (app i oi bi vi ui st).wl (app i oi bi vi ui st).rows id = some r → ∀ r', ui ≠ some (id, r') := by
  intro id r hr r' hu
  obtain ⟨hw, _⟩ := jQ.1 hr
  have := hw i (nU.2 (.inl ⟨rfl, r', hu⟩))
  rw [hdj] at this; cases this
 have hle : ∀ ids, i6 ids (dR md ops.toList j (app i oi bi vi ui st).wl (app i oi bi vi ui st).rows) (dR md ops.toList j st.wl st.rows) := by
  intro ids id _ r hr
  have hn := hnw id r hr
  obtain ⟨hw, jL⟩ := jQ.1 hr
  simp only [app] at jL hw
  rw [zB hn] at jL
  exact jQ.2 ⟨fun k hk => hw k (nU.2 (.inr hk)), jL⟩
 have asp : (if bj = true then yn E (c0 + rk E ops.toList j) oj.dst oj.op (aR st.f) (dR md ops.toList j st.wl st.rows) vj uj else vj = .dP [] ∧ uj = none) ∧
   (bj = true → ∀ id ∈ gQ oj.op (aR st.f), ∃ r, dR md ops.toList j (app i oi bi vi ui st).wl (app i oi bi vi ui st).rows id = some r) ∧ (∀ id r, uj = some (id, r) → bj = true ∧ ((cZ E oj.op = true ∧ id = oj.dst.getD 0) ∨ id ∈ gQ oj.op (aR st.f))) := by
  by_cases hb : bj = true
  ·rw [if_pos hb] at hyj ⊢
   have acx := (HQ ej).1 hyj
   obtain ⟨g1, g2, g3⟩ := P4 (hle _) acx
   exact ⟨g1, fun _ => g2, fun id r hu => ⟨hb, g3 id r hu⟩⟩
  ·rw [if_neg hb] at hyj ⊢
   exact ⟨hyj, fun h => absurd h hb, fun id r hu => by rw [hyj.2] at hu; cases hu⟩
 obtain ⟨asq, acx, asr⟩ := asp
 have ass : S4 md ops.toList j uj st.bN := E4.2 fun id r hu k hk => hoj id r hu k (.inr hk)
 have hfi : ∀ id r, uj = some (id, r) → ¬ (bi = true ∧ id ∈ gQ oi.op (aR st.f)) := by
  intro id r hu hh
  have := hoj id r hu i (.inl ⟨hh.1, rfl, hh.2⟩)
  rw [hdj] at this; cases this
 have hui : ∀ id r, ui = some (id, r) → bi = true ∧ ((cZ E oi.op = true ∧ id = oi.dst.getD 0) ∨ id ∈ gQ oi.op (aR st.f)) := by
  intro id r hu
  by_cases hb : bi = true
  ·rw [if_pos hb] at S5
   exact ⟨hb, (P4 (rows' := dR md ops.toList i st.wl st.rows) (fun id _ r hr => hr) S5).2.2 id r hu⟩
  ·rw [if_neg hb] at S5
   rw [S5.2] at hu; cases hu
 have sZ : ∀ id r r', ui = some (id, r) → uj = some (id, r') → False := by
  intro id r r' hu1 hu2
  obtain ⟨hb, hh⟩ := asr id r' hu2
  rcases hh with hh | hh
  ·obtain ⟨EZ, hh1⟩ := hui id r hu1
   rcases hh1 with hh1 | hh1
   ·obtain ⟨d, hd⟩ := Option.isSome_iff_exists.1 (hds hh1.1)
    have e1 : id = d := by rw [hh1.2, hd]; rfl
    cases ahs : oj.dst with
    | none => exact absurd ahs (fun he => by have := asn hh.1; rw [he] at this; cases this)
    | some d' =>
     have e2 : id = d' := by rw [hh.2, ahs]; rfl
     exact h2 d hd (by rw [ahs, ← e2, e1])
   ·exact hfi id r' hu2 ⟨EZ, hh1⟩
  ·obtain ⟨r'', ast⟩ := acx hb id hh
   exact hnw id r'' ast r hu1
 have asu : bi = true → i6 (gQ oi.op (aR st.f)) (dR md ops.toList i st.wl st.rows) (dR md ops.toList i (app j oj bj vj uj st).wl (app j oj bj vj uj st).rows) := by
  intro hb id gN r hr
  obtain ⟨hw, jL⟩ := jQ.1 hr
  have hn : ∀ r', uj ≠ some (id, r') := fun r' hu => hfi id r' hu ⟨hb, gN⟩
  refine jQ.2 ⟨fun k hk => ?_, ?_⟩
  ·rcases nU.1 hk with ⟨_, r', hu⟩ | hk
   ·exact absurd hu (hn r')
   ·exact hw k hk
  ·simp only [app]; rw [zB hn]; exact jL
 refine ⟨bj, vj, uj, ⟨aso, asq⟩, ass, ⟨(P6 h3).2 hgi, ?_⟩, ?_, ?_⟩
 ·by_cases hb : bi = true
  ·rw [if_pos hb] at S5 ⊢
   refine (HQ ei).2 ?_
   exact (P4 (asu hb) S5).1
  ·rw [if_neg hb] at S5 ⊢; exact S5
 ·-- i's own row has not axS aql
  rw [E4]
  rintro id r hu k (⟨hb, rfl, hh⟩ | hh)
  ·obtain ⟨r', jL⟩ := acx hb id hh
   exact absurd hu (hnw id r' jL r)
  ·exact ho id r hu k hh
 ·have : app i oi bi vi ui (app j oj bj vj uj st) = app j oj bj vj uj (app i oi bi vi ui st) := by
   simp only [app, ST.mk.injEq]
   refine ⟨put_comm fun d hd => fun W3 => (h2 d) (by first | exact hd | exact W3) (by first | exact W3 | exact hd), ?_, ?_, ?_⟩
   ·cases ui with
    | none => rfl
    | some x =>
     cases uj with
     | none => rfl
     | some y =>
      obtain ⟨id, r⟩ := x
      obtain ⟨iX, r'⟩ := y
      have : id ≠ iX := fun e => sZ id r r' rfl (by rw [e])
      funext k
      simp only [fC, dJ]
      split <;> split <;> simp_all
   ·funext k id
    have e1 : gQ oi.op (aR (put st.f oj.dst vj)) = gQ oi.op (aR st.f) := zA ei
    have e2 : gQ oj.op (aR (put st.f oi.dst vi)) = gQ oj.op (aR st.f) := zA ej
    rw [e1, e2]
    apply propext
    constructor
    ·rintro (h | h | h)
     ·exact .inr (.inl h)
     ·exact .inl h
     ·exact .inr (.inr h)
    ·rintro (h | h | h)
     ·exact .inr (.inl h)
     ·exact .inl h
     ·exact .inr (.inr h)
   ·funext k id
    apply propext
    rw [nU, nU, nU, nU]
    constructor
    ·rintro (h | h | h)
     ·exact .inr (.inl h)
     ·exact .inl h
     ·exact .inr (.inr h)
    ·rintro (h | h | h)
     ·exact .inr (.inl h)
     ·exact .inl h
     ·exact .inr (.inr h)
  rw [this]; exact hK
theorem HS {j k : Nat} : S3 md ops.toList j k = true ↔ ∃ oj, ops[j]? = some oj ∧ ∃ e ∈ oj.after, Region.binds md e = true ∧ e.on = k := by
 unfold S3
 cases h : ops[j]? with
 | none => simp [show ops.toList[j]? = none by simpa using h]
 | some oj =>
  rw [show ops.toList[j]? = some oj by simpa using h]
  simp only [List.any_eq_true, Bool.and_eq_true, beq_iff_eq, Option.some.injEq]
  constructor
  ·rintro ⟨e, he, h1, h2⟩; exact ⟨oj, rfl, e, by simpa using he, h1, h2⟩
  ·rintro ⟨_, rfl, e, he, h1, h2⟩; exact ⟨e, by simpa using he, h1, h2⟩
theorem acy {n j i : Nat} {oj : Oper} {aZ : Array Bool} (hj : ops[j]? = some oj) (inv : HeadInv md ops n aZ) (hr : ∀ e ∈ oj.after, Region.binds md e = true → aZ.getD e.on false = true) (LH : aZ.getD i false = false) : nT md ops.toList j i = false := by
 have one : ∀ k, S3 md ops.toList j k = true → aZ.getD k false = true := fun k hk => by
  obtain ⟨o, ho, e, he, h1, rfl⟩ := HS.1 hk
  rw [hj] at ho; cases ho
  exact hr e he h1
 cases hd : nT md ops.toList j i with
 | false => rfl
 | true =>
  exfalso
  unfold nT at hd
  rcases Bool.or_eq_true_iff.1 hd with h | h
  ·rw [one i h] at LH; cases LH
  ·obtain ⟨k, _, hk⟩ := List.any_eq_true.1 h
   obtain ⟨h1, h2⟩ := Bool.and_eq_true_iff.1 hk
   obtain ⟨o, ho, e, he, h3, rfl⟩ := HS.1 h2
   rw [inv.closed k o ho (one k h1) e he h3] at LH; cases LH
end
section
variable {E : Env} {ops : Array Oper} {md : Region.Mode}
def HT (E : Env) (md : Region.Mode) (ops : Array Oper) (c0 n : Nat) (L : Array Bool → ST → Prop) : Nat → Array Bool → ST → Prop
 | 0, aZ, st => L aZ st
 | f + 1, aZ, st => Region.ready md ops aZ ≠ [] ∧ ∀ i ∈ Region.ready md ops aZ, i < n ∧ WZ E md ops c0 i (HT E md ops c0 n L f (aZ.setIfInBounds i true)) st
theorem HU {c0 n i : Nat} {oi : Oper} {b : Bool} {v : PV} {u : Option (Nat × Row)} {L : Array Bool → ST → Prop} (hi : ops[i]? = some oi) (nR : ∀ i oi, i < n → ops[i]? = some oi → cZ E oi.op = true → oi.dst.isSome = true)
  (zC : ∀ aZ, HeadInv md ops n aZ → ∀ i, i < n → aZ.getD i true = false → ∀ t, n ≤ t → t ∉ Region.ready md ops aZ) (hin : i < n)
  (amK : ∀ aZ st, L aZ st → ∀ j ∈ Region.ready md ops aZ, n ≤ j) :
  ∀ (f : Nat) (aZ : Array Bool) (st : ST), HeadInv md ops n aZ →
   (∀ j oj, ops[j]? = some oj → j ≠ i → aZ.getD j true = false → (∀ e ∈ oj.after, Region.binds md e = true → e.on ≠ i) → oi.apart ops oj = true) →
   i ∈ Region.ready md ops aZ → YG E md ops c0 i oi b v u st → S4 md ops.toList i u st.bN →
   HT E md ops c0 n L f (aZ.setIfInBounds i true) (app i oi b v u st) → HT E md ops c0 n L (f + 1) aZ st := by
 intro f
 induction f with
 | zero =>
  intro aZ st inv _ hr hy ho H
  have LH := (mem_ready.1 hr).1
  refine ⟨fun h => (by rw [h] at hr; cases hr), fun j hj => ?_⟩
  have hjn : j < n := by
   rcases Nat.lt_or_ge j n with h | h
   ·exact h
   ·exact absurd hj (zC aZ inv i hin LH j h)
  refine ⟨hjn, ?_⟩
  by_cases hji : j = i
  ·subst hji; unfold WZ; simp only [hi]; exact ⟨b, v, u, hy, ho, H⟩
  ·have := amK _ _ H j (ready_mono hj hji)
   omega
 | succ f ih =>
  intro aZ st inv afe hr hy ho H
  have LH := (mem_ready.1 hr).1
  refine ⟨fun h => (by rw [h] at hr; cases hr), fun j hj => ?_⟩
  have hjn : j < n := by
   rcases Nat.lt_or_ge j n with h | h
   ·exact h
   ·exact absurd hj (zC aZ inv i hin LH j h)
  refine ⟨hjn, ?_⟩
  by_cases hji : j = i
  ·subst hji; unfold WZ; simp only [hi]; exact ⟨b, v, u, hy, ho, H⟩
  ·have h1 := (H.2 j (ready_mono hj hji)).2
   obtain ⟨amM, oj, hoj, r6⟩ := mem_ready.1 hj
   have aht : ∀ e ∈ oj.after, Region.binds md e = true → e.on ≠ i := fun e he hb heq => by
    have h1 := r6 e he hb
    rw [heq, getD_both LH] at h1
    cases h1
   have h2 := acw hoj (afe j oj hoj hji amM aht) (nR i oi hin hi) (nR j oj hjn hoj) (acy hoj inv r6 (getD_both LH)) hy ho h1
   have ahu : ∀ k ok, ops[k]? = some ok → k ≠ i → (aZ.setIfInBounds j true).getD k true = false →
     (∀ e ∈ ok.after, Region.binds md e = true → e.on ≠ i) → oi.apart ops ok = true := fun k ok hk hki amN hno => by
    refine afe k ok hk hki ?_ hno
    by_cases hjk : j = k
    ·subst hjk; exact amM
    ·rw [getD_set_ne true hjk] at amN; exact amN
   refine W1 (fun P7 h3 => ih (aZ.setIfInBounds j true) P7 (inv.set hj hjn) ahu (ready_mono hr (Ne.symm hji)) h3.1 h3.2.1 ?_) h2
   rw [Array.setIfInBounds_comm _ _ hji]
   exact h3.2.2
def ahw (E : Env) (md : Region.Mode) (ops : Array Oper) (c0 : Nat) (Lq : ST → Prop) : Nat → List Oper → ST → Prop
 | _, [], st => Lq st
 | k, o :: os, st => ∃ b v u, YG E md ops c0 k o b v u st ∧ S4 md ops.toList k u st.bN ∧ ahw E md ops c0 Lq (k + 1) os (app k o b v u st)
theorem qF {c0 n g : Nat} {Lq : ST → Prop} (nR : ∀ i oi, i < n → ops[i]? = some oi → cZ E oi.op = true → oi.dst.isSome = true) (zC : ∀ aZ, HeadInv md ops n aZ → ∀ i, i < n → aZ.getD i true = false → ∀ t, n ≤ t → t ∉ Region.ready md ops aZ) :
  ∀ (l : List Oper) (k : Nat) (aZ : Array Bool) (st : ST), (∀ j, j < l.length → l[j]? = ops[k + j]?) → k + l.length = n → HeadInv md ops n aZ →
  Region.lexHead md ops g l.length k aZ = true → ahw E md ops c0 Lq k l st →
  HT E md ops c0 n (fun P8 P7 => Region.seqB md ops g n P8 = true ∧ Lq P7) l.length aZ st
 | [], k, aZ, st, _, hk, _, hB, h => by
  have : k = n := by simpa using hk
  subst this
  exact ⟨by simpa [Region.lexHead] using hB, h⟩
 | o :: l, k, aZ, st, hl, hk, inv, hB, h => by
  have h0 : ops[k]? = some o := by simpa using (hl 0 (by simp)).symm
  simp only [List.length_cons, Region.lexHead, Bool.and_eq_true] at hB
  obtain ⟨⟨hr, hf⟩, hB'⟩ := hB
  have hkn : k < n := by simp only [List.length_cons] at hk; omega
  have jL : k ∈ Region.ready md ops aZ := by simpa using hr
  obtain ⟨b, v, u, hy, ho, hK⟩ := h
  exact HU h0 nR zC hkn (fun P8 P7 hL => seqB_ready hL.1) l.length aZ st inv (Region.free_spec h0 hf) jL hy ho
   (qF nR zC l (k + 1) _ _ (fun j hj => by have := hl (j + 1) (by simp; omega); simpa [Nat.add_assoc, Nat.add_comm 1 j] using this) (by simp only [List.length_cons] at hk; omega) (inv.set jL hkn) hB' hK)
variable {w0 : World} {S0 : dF} {m : Nat} {G : Gs}
theorem MF {o : Oper} {a : Act} {w : World} {f : Nat → PV} {rows : Rows} {U : Nat → Prop} {c0 : Nat} {v : PV} {u : Option (Nat × Row)} (PY : ¬ U c0) {g : FuncId} {aAV : Array Operand} {ts : Array TypeId} (ho : o.op = .call { callee := .value (.func g), args := aAV, argTypes := ts })
  (hy : afb E g (aAV.toList.map fun x => aR f x) c0 (o.dst.getD 0) v u) (hR : nS w0 S0 m G U f rows a w) (hd : ∀ t, o.dst = some t → t < m)
  {K' : Act → World → Prop} {Q : Exit → Act → World → Prop} (hK : ∀ a' w', nS w0 S0 m G (fun v => v = c0 ∨ U v) (put f o.dst v) (fC rows u) a' w' → K' a' w') : o.wp E.P a w K' Q := by
 obtain ⟨⟨c, rfl, hr, eY, hI, hf, hG⟩, hn, eN⟩ := hR
 have hρ := kP hf
 have hfu : ¬ c.used c0 := fun hu => PY (eY _ hu)
 obtain ⟨rL, e, n, els, ⟨⟨fn, b, h1, h2, h3⟩, MB⟩, rfl, rfl⟩ := hy
 obtain ⟨dst, op, type, pos, after, guard⟩ := o
 simp only at ho hd hK
 subst ho
 have fR : bB (aK c) (aAV.toList.map fun x => aR f x) (aAV.map a.eval).toList := by
  refine bB.c7 (by simp) fun k p u hp hu => ?_
  simp at hp hu
  obtain ⟨x, hx, rfl⟩ := hp
  obtain ⟨y, hy, rfl⟩ := hu
  rw [hx] at hy; cases hy
  exact hρ x
 have fB : bK c.S c.w (aAV.toList.map fun x => aR f x) (aAV.map a.eval).toList := cI.2 (bB.c7 fR.length fun k p u hp hu => by
  obtain ⟨u', q1, q2⟩ := fR.get hp
  rw [hu] at q1; cases q1
  exact q2.rep (List.all_eq_true.1 rL p (List.mem_of_getElem? hp)))
 have o9 := MB c.w c.S _ (fun b o hb => hI.lt hb) fB
 simp only [Array.toArray_toList] at o9
 have hfo := hρ (.func g)
 simp only [aR, aK, aQ, cP] at hfo
 obtain ⟨cs, hfv, G8⟩ := hfo
 simp only [bK] at G8
 subst G8
 unfold Oper.wp
 have i5 : (execOp a.eval { dst := dst, op := .call { callee := .value (.func g), args := aAV, argTypes := ts }, type := type, pos := pos, after := after, guard := guard }).run E.P c.w = .ok (.enter g (aAV.map a.eval)) c.w := by
  simp only [execOp, resolve, hfv, Deferred.ofValue, Sem.run_bind, Sem.run_pure, Result.andThen_ok, invoke]
  simpa using k9 h1 h2 h3 (aAV.map a.eval) c.w
 rw [i5]
 refine o9.mono ?_
 rintro x w' ⟨v', xs, S', rfl, hb, g1, g2, g3, g4, g5, g6, g7, g8⟩
 obtain ⟨hI2, hA2⟩ := hI.grow hb g1 g2
 obtain ⟨hI3, hA3⟩ := hI2.set (w' := w') (ob := v'.ownBlock) (id := dst.getD 0) (r' := ⟨c0, e, n, els⟩) (v' := v') (xs := xs) (World.grownBy.refl _ _)
  (fun g hg => by
   have WG := (g3.lt g hg).1
   refine ⟨by have := hI.below.size; omega, fun o => g8 g o hg, fun iX r hr _ yP => ?_⟩
   obtain ⟨⟨ys, q1, _, _⟩, _⟩ := hI.row iX r hr
   have := (q1.lt g yP).2
   omega) ⟨g3.1, g3.2.imp id fun ⟨g, cap, cur, q1, q2, q3⟩ => ⟨g, cap, cur, q1, Nat.le_trans hI.below.size q2, q3⟩⟩ (g4.mono fun _ _ h => aQ.i4 h) g5 g6 g7 (fun g hg => .inl hg) hfu
 refine hK _ _ ?_
 have hf2 : ∀ s, aK { c with S := S', w := w' } (f s) (a.tmps.getD s undef) := fun s => aK.rT hA2 _ _ (hf s)
 have hG2 : ∀ p ∈ G, aK { c with S := S', w := w' } p.1 p.2 := fun p hp => aK.rT hA2 _ _ (hG p hp)
 refine mX hf2 hG2 hn eN hA3 hI3 ?_ hd rfl (by simp [fC, hr]) (fun v hv => hv.imp (fun h => h) (eY v))
 rcases g3.2 with ⟨rfl, h8⟩ | ⟨g, jN, cur, rfl, _⟩
 ·have : els.length = 0 := h8
  rw [this]
  exact j5 (r := ⟨c0, e, n, els⟩) (A := none) (cap := 0) (by simp [dJ]) (by simpa using h8) (Or.inl rfl) (by simp [dJ])
 ·exact j5 (r := ⟨c0, e, n, els⟩) (by simp [dJ]) rfl (Or.inl rfl) (by simp [dJ])
theorem W4 {o : Oper} {a : Act} {w : World} {f : Nat → PV} {rows : Rows} {U : Nat → Prop} {c0 : Nat} {v : PV} {u : Option (Nat × Row)} (PY : ¬ U c0) (hn : cZ E o.op = true) (hy : yn E c0 o.dst o.op (aR f) rows v u) (hR : nS w0 S0 m G U f rows a w) (hd : ∀ t, o.dst = some t → t < m)
  {K' : Act → World → Prop} {Q : Exit → Act → World → Prop} (hK : ∀ a' w', nS w0 S0 m G (fun v => v = c0 ∨ U v) (put f o.dst v) (fC rows u) a' w' → K' a' w') : o.wp E.P a w K' Q := by
 by_cases o9 : ∃ g aAV ts, o.op = .call { callee := .value (.func g), args := aAV, argTypes := ts } ∧ E.writes g = true
 ·obtain ⟨g, aAV, ts, ho, hw⟩ := o9
  rw [ho] at hy
  simp only [yn] at hy
  rw [if_pos hw] at hy
  exact MF PY ho hy hR hd hK
 refine tA (ver := c0) PY (K := fun _ f' rows' => f' = put f o.dst v ∧ rows' = fC rows u) ?_ hR hd (fun i f' rows' a' w' h j6 => by
  obtain ⟨rfl, rfl⟩ := h
  exact hK a' w' (j6.mono fun v hv => hv.imp (fun h => h.2) fun h => h))
 obtain ⟨dst, op, type, pos, after, guard⟩ := o
 simp only at hn hy o9 ⊢
 refine lZ hn ?_ ?_ ?_ ?_ ?_
 ·rintro t rfl
  simp only [yn] at hy
  obtain ⟨h2, rfl, rfl⟩ := hy
  exact ⟨h2, rfl, rfl⟩
 ·rintro t x rfl
  simp only [yn] at hy
  obtain ⟨h2, l, h3, h4, h5, rfl, rfl⟩ := hy
  exact ⟨h2, l, h3, fun q hq => E3 (fun id _ r hr => by cases hr) (h4 q hq), h5, rfl, rfl⟩
 ·rintro t l cc rfl
  simp only [yn] at hy
  simp only [mO]
  split at hy
  ·rename_i e n b z k1 x k2 y hE hl hc
   obtain ⟨g1, g2, g3, g4, rfl, rfl⟩ := hy
   try rw [hE, hl, hc]
   exact ⟨g1, g2, g3, g4, rfl, rfl⟩
  ·exact hy.elim
 ·rintro x y t t2 rfl
  simp only [yn] at hy
  obtain ⟨h2, hy⟩ := hy
  simp only [mO]
  refine ⟨h2, ?_⟩
  unfold pA at hy
  unfold mY
  split at hy
  ·rename_i e n b z hE
   obtain ⟨l, g1, g2, g3⟩ := hy
   rw [hE]
   refine ⟨l, g1, g2, ?_⟩
   split at g3
   ·rename_i hx
    obtain ⟨q1, q2, rfl, rfl⟩ := g3
    rw [hx]
    exact ⟨q1, q2, rfl, rfl⟩
   ·rename_i id ver off len hx
    obtain ⟨r, q1, q2, q3, q4, q5, q6, q7, q8, rfl, rfl⟩ := g3
    rw [hx]
    exact ⟨r, q1, q2, q3, q4, q5, q6, q7, q8, rfl, rfl⟩
   ·exact g3.elim
  ·exact hy.elim
 ·rintro g aAV ts rfl hw
  exact absurd ⟨g, aAV, ts, rfl, hw⟩ o9
theorem S6 {c0 i : Nat} {st : ST} {K : ST → Prop} {U : Nat → Prop} (PY : ∀ o, ops[i]? = some o → cZ E o.op = true → ¬ U (c0 + rk E ops.toList i)) (h : WZ E md ops c0 i K st) {a : Act} {w : World} (hR : nS w0 S0 m G U st.f st.rows a w) (hd : ∀ o, o ∈ ops → ∀ t, o.dst = some t → t < m)
  {K' : Act → World → Prop} {Q : Exit → Act → World → Prop} (hK : ∀ P7 a' w', K P7 → nS w0 S0 m G (fun v => (v = c0 + rk E ops.toList i ∧ ∃ o, ops[i]? = some o ∧ cZ E o.op = true) ∨ U v) P7.f P7.rows a' w' → K' a' w') : wpOp E.P ops Q i K' a w := by
 unfold WZ at h
 unfold wpOp
 split at h
 ·rename_i hi; simp only [hi]; exact hK _ _ _ h (hR.mono fun v hv => .inr hv)
 ·rename_i o hi
  simp only [hi]
  obtain ⟨b, v, u, ⟨hg, hy⟩, ho, hk⟩ := h
  have j6 := hR
  obtain ⟨⟨c, rfl, hr, eY, hI, hf, hG⟩, hn, eN⟩ := hR
  have hdo := hd o (Array.mem_of_getElem? hi)
  have aff : Region.wanted o (yielded ops a.tmps) = b := by
   unfold gOK at hg
   unfold Region.wanted
   cases hgd : o.guard with
   | none => rw [hgd] at hg; simp only at hg ⊢; exact hg.symm
   | some x =>
    obtain ⟨j, want⟩ := x
    rw [hgd] at hg
    simp only at hg ⊢
    obtain ⟨d, h1, h2⟩ := hg
    have hx := hf d
    rcases h2 with ⟨h2, h3⟩ | ⟨h2 | h2, h3⟩
    ·rw [h2] at hx
     rw [gJ h1 hx, h3]
     cases want <;> rfl
    ·rw [h2] at hx
     rw [gJ h1 hx, h3]
     cases want <;> rfl
    ·rw [h2] at hx
     rw [r5 h1 hx, h3]
     rfl
  by_cases hb : b = true
  ·subst hb
   rw [if_pos rfl] at hy
   rw [aff, if_pos rfl]
   left
   cases nR : cZ E o.op with
   | true =>
    refine W4 (PY o hi nR) nR (P4 (fun id _ r jL => (jQ.1 jL).2) hy).1 j6 hdo fun a' w' hR2 => hK _ _ _ hk ?_
    exact hR2.mono fun v hv => hv.imp (fun h => ⟨h, o, by first | exact hi | rfl, nR⟩) fun h => h
   | false =>
    rw [y7 nR] at hy
    have B3 : ys E o.op (aR st.f) c.rows v u := by
     rw [hr]
     exact (afa (fun id _ r jL => (jQ.1 jL).2) hy).1
    refine HP hI hf B3 fun v' c' h1 h2 h3 h4 h5 => hK _ _ _ hk ?_
    refine mX hf hG hn eN h3 h4 h5 hdo rfl ?_ ?_
    ·simp only [app]
     rw [h1, hr]
    ·rw [h2]
     exact fun v hv => .inr (eY v hv)
  ·rw [if_neg hb] at hy
   obtain ⟨rfl, rfl⟩ := hy
   rw [aff, if_neg hb]
   refine hK _ _ _ hk ?_
   have yP : b = false := by simpa using hb
   subst yP
   exact mX hf hG hn eN (rS.refl c) hI ME hdo rfl (by rw [hr]; rfl) (fun v hv => .inr (eY v hv))
def Ul (E : Env) (ops : Array Oper) (c0 n : Nat) (aZ : Array Bool) : Nat → Prop := fun v => v < c0 ∨ ∃ k o, k < n ∧ ops[k]? = some o ∧ cZ E o.op = true ∧ v = c0 + rk E ops.toList k ∧ aZ.getD k false = true
theorem MG {c0 n v : Nat} {aZ : Array Bool} (h : Ul E ops c0 n aZ v) : v < c0 + rk E ops.toList n := by
 rcases h with h | ⟨k, o, hk, ho, hn, rfl, _⟩
 ·omega
 ·have := WW (ops := ops.toList) (by simpa using ho) hn hk
  omega
theorem j0 {c0 n g : Nat} {L : Array Bool → ST → Prop} {Q : Exit → Act → World → Prop} (hd : ∀ o, o ∈ ops → ∀ t, o.dst = some t → t < m)
  (hL : ∀ aZ (st : ST) a w, L aZ st → nS w0 S0 m G (Ul E ops c0 n aZ) st.f st.rows a w → wpAny E.P md ops Q g aZ a w) :
  ∀ (f : Nat) (aZ : Array Bool) (st : ST) (a : Act) (w : World), n ≤ aZ.size → HT E md ops c0 n L f aZ st → nS w0 S0 m G (Ul E ops c0 n aZ) st.f st.rows a w → wpAny E.P md ops Q (f + g) aZ a w
 | 0, aZ, st, a, w, _, h, hR => by rw [Nat.zero_add]; exact hL _ _ _ _ h hR
 | f + 1, aZ, st, a, w, mM, h, hR => by
  rw [show f + 1 + g = (f + g) + 1 by omega]
  refine ⟨fun h0 => absurd h0 h.1, fun i hi => ?_⟩
  have LH := (mem_ready.1 hi).1
  obtain ⟨hin, hq⟩ := h.2 i hi
  refine S6 (fun o ho hn hU => ?_) hq hR hd fun P7 a' w' h' j6 => j0 hd hL f _ P7 a' w' (by simpa using mM) h' (j6.mono fun v hv => ?_)
  ·rcases hU with hU | ⟨k, o', hk, ho', wL, he, hl⟩
   ·omega
   ·have := aho (ops := ops.toList) (by simpa using ho) hn (by simpa using ho') wL (by omega)
    subst this
    rw [getD_both LH] at hl; cases hl
  ·rcases hv with ⟨rfl, o, ho, hn⟩ | hv
   ·exact .inr ⟨i, o, hin, ho, hn, rfl, by simp [show i < aZ.size by omega]⟩
   ·rcases hv with hv | ⟨k, o, hk, ho, hn, he, hl⟩
    ·exact .inl hv
    ·refine .inr ⟨k, o, hk, ho, hn, he, ?_⟩
     by_cases hki : i = k
     ·subst hki; simp [show i < aZ.size by omega]
     ·simpa [Array.getElem?_setIfInBounds_ne hki] using hl
end
def aL (E : Env) (ops : List Oper) : List Oper → (PS → Prop) → PS → Prop
 | [], K, σ => K σ
 | o :: os, K, σ =>
  match o.guard with
  | none => dW E o (aL E ops os K) σ
  | some (j, want) =>
   match (ops[j]?).bind (·.dst) with
   | none => False
   | some d => (σ.f d = .bool want ∧ dW E o (aL E ops os K) σ) ∨ ((σ.f d = .bool (!want) ∨ σ.f d = .dP []) ∧ aL E ops os K (σ.put o.dst (.dP [])))
def aN (E : Env) (ops : List Oper) (clk : Nat) : Nat → List Oper → (PS → Prop) → ST → Prop
 | _, [], K, st => K ⟨st.f, st.rows, clk⟩
 | k, o :: os, K, st =>
  match o.guard with
  | none => ∃ v u, yn E clk o.dst o.op (aR st.f) (dR .any ops k st.wl st.rows) v u ∧ S4 .any ops k u st.bN ∧ aN E ops (gR E o.op clk) (k + 1) os K (app k o true v u st)
  | some (j, want) =>
   match (ops[j]?).bind (·.dst) with
   | none => False
   | some d => (st.f d = .bool want ∧ ∃ v u, yn E clk o.dst o.op (aR st.f) (dR .any ops k st.wl st.rows) v u ∧ S4 .any ops k u st.bN ∧ aN E ops (gR E o.op clk) (k + 1) os K (app k o true v u st)) ∨ ((st.f d = .bool (!want) ∨ st.f d = .dP []) ∧ aN E ops clk (k + 1) os K (app k o false (.dP []) none st))
def fD (E : Env) (tl : Nat) (ops : List Oper) (K : PS → Prop) (σ : PS) : Prop :=
 if tl = 0 then aN E ops σ.clock 0 ops K ⟨σ.f, σ.rows, fun _ _ => False, fun _ _ => False⟩
 else aN E ops σ.clock 0 (ops.take (ops.length - tl)) (aL E ops (ops.drop (ops.length - tl)) K) ⟨σ.f, σ.rows, fun _ _ => False, fun _ _ => False⟩
inductive PX where
 | normal
 | exit (id : Nat)
 | ret
def B6 (K : PS → Prop) (Q : PX → PS → Prop) : PX → PS → Prop
 | .normal, σ => K σ
 | .exit id, σ => Q (.exit id) σ
 | .ret, σ => Q .ret σ
def B7 (id : Nat) (Q : PX → PS → Prop) : PX → PS → Prop
 | .normal, σ => Q .normal σ
 | .exit j, σ => if j = id then Q .normal σ else Q (.exit j) σ
 | .ret, σ => Q .ret σ
def pB (E : Env) (n tl : Nat) (ops : Array Oper) (draw : Bool) : Bool :=
 (ops.all fun o => match o.dst with | some d => decide (d < n) | none => true) &&
 (!draw || (rZ E (if tl = 0 then ops.toList else ops.toList.take (ops.size - tl)) && (if tl = 0 then Region.noSelect ops && Region.lexHead .any ops 0 ops.size 0 (Array.replicate ops.size false) else decide (tl ≤ ops.size) && Region.lexTailB .any ops (ops.size - tl))))
def eE (E : Env) (n : Nat) (tl : Nat → Nat) : Code → Bool
 | .region id ops draw => pB E n (tl id) ops draw
 | .seq a b => eE E n tl a && eE E n tl b
 | .cond _ t e => eE E n tl t && eE E n tl e
 | .block _ c => eE E n tl c
 | .loop c => eE E n tl c
 | _ => true
section
variable {E : Env} {w0 : World} {S0 : dF} {n : Nat} {G : Gs}
theorem fX {ops : Array Oper} {K : PS → Prop} {Q : Exit → Act → World → Prop} (hK : ∀ σ' a' w', K σ' → Rel w0 S0 n G σ' a' w' → Q .normal a' w') :
  ∀ (l : List Oper) (σ : PS) (a : Act) (w : World), (∀ o ∈ l, ∀ t, o.dst = some t → t < n) → aL E ops.toList l K σ → Rel w0 S0 n G σ a w → wpList E.P ops Q l a w
 | [], σ, a, w, _, h, hR => hK _ _ _ h hR
 | o :: os, σ, a, w, hd, h, hR => by
  have hdo := hd o (by simp)
  have hds : ∀ o ∈ os, ∀ t, o.dst = some t → t < n := fun o ho => hd o (by simp [ho])
  have wanted : ∀ {σ}, dW E o (aL E ops.toList os K) σ → Rel w0 S0 n G σ a w → o.wp E.P a w (wpList E.P ops Q os) Q := fun hp hR =>
   wM hp hR hdo fun σ' a' w' hk j6 => fX hK os σ' a' w' hds hk j6
  unfold wpList
  simp only [aL] at h
  split at h
  ·rename_i hg
   rw [if_pos (by simp [Region.wanted, hg])]
   exact .inl (wanted h hR)
  ·rename_i j want hg
   split at h
   ·exact h.elim
   ·rename_i d S7
    have hd3 : (ops[j]?).bind (·.dst) = some d := by simpa using S7
    have skip : yielded ops a.tmps j ≠ some want → aL E ops.toList os K (σ.put o.dst (.dP [])) → (if Region.wanted o (yielded ops a.tmps) = true then o.wp E.P a w (wpList E.P ops Q os) Q ∨ (o.asks E.P a w ∧ LetsOut Q) else wpList E.P ops Q os (a.put o.dst undef) w) := by
     intro hy h2
     rw [if_neg (by simpa [Region.wanted, hg] using hy)]
     refine fX hK os _ _ w hds h2 ?_
     obtain ⟨⟨c, rfl, hr, eY, hI, hf, hG⟩, hn, eN⟩ := hR
     exact lY hf hG hn eN (rS.refl c) hI ME hdo rfl (by simp [PS.put, hr]) eY
    obtain ⟨c, _, _, _, _, hf, _⟩ := hR.ex
    have hx := hf d
    rcases h with ⟨h1, h2⟩ | ⟨h1 | h1, h2⟩
    ·rw [h1] at hx
     rw [if_pos (by simp [Region.wanted, hg, gJ hd3 hx])]
     exact .inl (wanted h2 hR)
    ·rw [h1] at hx
     exact skip (by rw [gJ hd3 hx]; cases want <;> simp) h2
    ·rw [h1] at hx
     exact skip (by rw [r5 hd3 hx]; simp) h2
theorem mZ {ops : Array Oper} {c0 : Nat} {K : PS → Prop} : ∀ (l : List Oper) (k clk : Nat) (st : ST), (∀ j, j < l.length → l[j]? = ops[k + j]?) → rZ E l = true → clk = c0 + rk E ops.toList k → aN E ops.toList clk k l K st → ahw E .any ops c0 (fun st => K ⟨st.f, st.rows, c0 + rk E ops.toList (k + l.length)⟩) k l st
 | [], k, clk, st, _, _, hc, h => by subst hc; exact h
 | o :: os, k, clk, st, hl, HV, hc, h => by
  have ahy : rZ E os = true := by simp only [rZ, List.all_cons, Bool.and_eq_true] at HV ⊢; exact HV.2
  have asx : o.guard ≠ none → cZ E o.op = false := fun hg => by
   simp only [rZ, List.all_cons, Bool.and_eq_true] at HV
   cases hn : cZ E o.op with
   | false => rfl
   | true => have := HV.1; rw [hn] at this; simp at this; exact absurd this.2 hg
  have h0 : ops[k]? = some o := by simpa using (hl 0 (by simp)).symm
  have uQ : gR E o.op clk = c0 + rk E ops.toList (k + 1) := by rw [hc]; exact acv (by simpa using h0)
  have hl1 : ∀ j, j < os.length → os[j]? = ops[k + 1 + j]? := fun j hj => by have := hl (j + 1) (by simp; omega); simpa [Nat.add_assoc, Nat.add_comm 1 j] using this
  have e1 : k + (o :: os).length = k + 1 + os.length := by simp only [List.length_cons]; omega
  rw [e1]
  simp only [aN] at h
  split at h
  ·rename_i hg
   obtain ⟨v, u, h1, h2, h3⟩ := h
   exact ⟨true, v, u, ⟨by simp [gOK, hg], by rw [if_pos rfl, ← hc]; exact h1⟩, h2, mZ os _ _ _ hl1 ahy uQ h3⟩
  ·rename_i j want hg
   split at h
   ·exact h.elim
   ·rename_i d S7
    have hd3 : (ops[j]?).bind (·.dst) = some d := by simpa using S7
    rcases h with ⟨h1, v, u, q1, q2, q3⟩ | ⟨h1, h2⟩
    ·exact ⟨true, v, u, ⟨by simp only [gOK, hg]; exact ⟨d, hd3, .inl ⟨h1, trivial⟩⟩, by rw [if_pos rfl, ← hc]; exact q1⟩, q2, mZ os _ _ _ hl1 ahy uQ q3⟩
    ·exact ⟨false, .dP [], none, ⟨by simp only [gOK, hg]; exact ⟨d, hd3, .inr ⟨h1, trivial⟩⟩, by simp⟩, trivial, mZ os _ _ _ hl1 ahy (by rw [← uQ, y9 (asx (by rw [hg]; simp))]) h2⟩
theorem Rel.drew {σ : PS} {a : Act} {w : World} (h : Rel w0 S0 n G σ a w) : Rel w0 S0 n G σ a { w with drawn := w.drawn + 1 } := by
 obtain ⟨⟨c, rfl, hr, eY, hI, hf, hG⟩, hn, eN⟩ := h
 obtain ⟨uR, hA⟩ := hI.grow (w' := { c.w with drawn := c.w.drawn + 1 }) (S' := c.S) ⟨rfl, rfl, rfl, Nat.le_refl _, fun _ _ => rfl⟩ (fun _ _ h => h) (fun _ _ h => .inl h)
 exact ⟨⟨{ c with w := { c.w with drawn := c.w.drawn + 1 } }, rfl, hr, eY, uR, fun s => aK.rT hA _ _ (hf s), fun p hp => aK.rT hA _ _ (hG p hp)⟩, hn, eN⟩
theorem rN {id tl : Nat} {ops : Array Oper} {K : PS → Prop} {Q : Exit → Act → World → Prop} (fM : pB E n tl ops true = true) {σ : PS} {a : Act} {w : World} (h : fD E tl ops.toList K σ) (hR : Rel w0 S0 n G σ a w)
  (hK : ∀ σ' a' w', K σ' → Rel w0 S0 n G σ' a' w' → Q .normal a' w') : (Code.region id ops true).wp E.P Q a w := by
 simp only [pB, Bool.and_eq_true, Bool.not_true, Bool.false_or] at fM
 obtain ⟨ahz, rO, fM⟩ := fM
 have hd : ∀ o, o ∈ ops → ∀ t, o.dst = some t → t < n := by
  intro o ho t ht
  have := Array.all_eq_true_iff_forall_mem.1 ahz o ho
  simpa [ht] using this
 refine wp_region_any E.mixed ?_
 have HW := hR.drew
 have hU0 : ∀ k (l : Array Bool), nS w0 S0 n G (Ul E ops σ.clock k l) σ.f σ.rows a { w with drawn := w.drawn + 1 } := fun k l => HW.mono fun v hv => .inl hv
 have acB : ∀ (l : List Oper), rZ E l = true → ∀ (i : Nat) (oi : Oper), l[i]? = some oi → cZ E oi.op = true → oi.dst.isSome = true := fun l h i oi hi hn => by
  have := List.all_eq_true.1 h oi (List.mem_of_getElem? hi)
  rw [hn] at this; simp at this; exact Option.isSome_iff_exists.2 (by obtain ⟨x, hx⟩ := Option.isSome_iff_exists.1 this.1; exact ⟨x, hx⟩)
 unfold fD at h
 by_cases htl : tl = 0
 ·rw [if_pos htl] at h fM rO
  have nR : ∀ i oi, i < ops.size → ops[i]? = some oi → cZ E oi.op = true → oi.dst.isSome = true := fun i oi _ hi => acB _ rO i oi (by simpa using hi)
  simp only [Bool.and_eq_true] at fM
  have hl := mZ (c0 := σ.clock) ops.toList 0 _ _ (by simp) rO (by simp [rk]) h
  have W5 : HeadInv .any ops ops.size (Array.replicate ops.size false) :=
   ⟨by simp, fun j oj _ hl => (by rw [getD_replicate_false] at hl; cases hl), fun t h1 h2 => by omega⟩
  have zC : ∀ aZ, HeadInv .any ops ops.size aZ → ∀ i, i < ops.size → aZ.getD i true = false → ∀ t, ops.size ≤ t → t ∉ Region.ready .any ops aZ := by
   intro aZ _ i _ _ t ht hr
   obtain ⟨_, o, ho, _⟩ := mem_ready.1 hr
   have := (Array.getElem?_eq_some_iff.1 ho).1
   omega
  have H := qF (E := E) (md := .any) (g := 0) nR zC ops.toList 0 _ _ (by simp) (by simp) W5 (by simpa using fM.2) hl
  have := j0 (E := E) (md := .any) (g := 0) (Q := Q) (m := n) hd (fun aZ st a' w' hL j6 => by
   obtain ⟨h1, h2⟩ := hL
   exact ⟨by simpa [Region.seqB] using h1, hK _ _ _ h2 (j6.mono fun v hv => by have := MG hv; simpa using this)⟩) _ _ _ _ _ (by simp) H (hU0 _ _)
  simpa using this
 ·rw [if_neg htl] at h fM rO
  have nR : ∀ i oi, i < ops.size - tl → ops[i]? = some oi → cZ E oi.op = true → oi.dst.isSome = true := fun i oi h1 hi => acB _ rO i oi (by rw [List.getElem?_take, if_pos h1]; simpa using hi)
  simp only [Bool.and_eq_true, decide_eq_true_eq] at fM
  obtain ⟨hle, hB⟩ := fM
  simp only [Region.lexTailB, Bool.and_eq_true, decide_eq_true_eq] at hB
  obtain ⟨⟨⟨⟨asy, wL⟩, hs⟩, hc⟩, ahA⟩ := hB
  have hlen : ops.toList.length = ops.size := by simp
  rw [hlen] at h
  have hl := mZ (c0 := σ.clock) (ops.toList.take (ops.size - tl)) 0 _ _ (fun j hj => by
   have hj' : j < ops.size - tl := by simpa using hj
   simp [hj']) rO (by simp [rk]) h
  have W5 : HeadInv .any ops (ops.size - tl) (Array.replicate ops.size false) :=
   ⟨by simp, fun j oj _ hl => (by rw [getD_replicate_false] at hl; cases hl), fun t _ ht => getD_in (by simpa using ht) (getD_replicate_false _ _)⟩
  have BV : (ops.toList.take (ops.size - tl)).length = ops.size - tl := by simp
  have S8 : (ops.toList.drop (ops.size - tl)).length = ops.size - (ops.size - tl) := by simp
  have H := qF (E := E) (md := .any) (n := ops.size - tl) (g := ops.size - (ops.size - tl)) nR (fun aZ inv i hi LH t ht => tail_waits hs hc wL inv _ i rfl hi LH t ht) (ops.toList.take (ops.size - tl)) 0 _ _ (fun j hj => by
   rw [BV] at hj
   simp [hj]) (by rw [BV]; simp) W5 (by rw [BV]; exact ahA) hl
  have := j0 (E := E) (md := .any) (g := ops.size - (ops.size - tl)) (Q := Q) (m := n) hd (fun aZ st a' w' hL j6 => by
   obtain ⟨h1, h2⟩ := hL
   have h3 := fX (ops := ops) (Q := Q) hK (ops.toList.drop (ops.size - tl)) _ a' w' (fun o ho => hd o (by simpa using List.mem_of_mem_drop ho)) h2 (j6.mono fun v hv => by have := MG hv; simpa using this)
   have h4 := wpAny_of_seq (md := .any) (Q' := Q) (ops.toList.drop (ops.size - tl)) (ops.size - tl) aZ a' w' (fun j => by simp [List.getElem?_drop]) (by rw [S8]; exact h1) h3
   rwa [S8] at h4) _ _ _ _ _ (by simp) H (hU0 _ _)
  rw [BV, show ops.size - tl + (ops.size - (ops.size - tl)) = ops.size by omega] at this
  exact this
def ahB : PX → Exit
 | .normal => .normal
 | .exit id => .exit id
 | .ret => .ret
end
def oK (E : Env) (σ : PS) : List ResultVar → (List PV → Prop) → Prop
 | [], K => K []
 | .tmp t :: rs, K => oK E σ rs fun vs => K (σ.f t :: vs)
 | .cell a t :: rs, K => ∃ v, rG E t σ.rows (σ.f a) v ∧ oK E σ rs fun vs => K (v :: vs)
def HX : List PV → PV
 | [x] => x
 | l => .dP l
def W6 (E : Env) (rs : List ResultVar) (r : PV) (σ : PS) : Prop :=
 oK E σ rs fun vs => dQ σ.rows (vs.flatMap dG) ∧ (vs.map (pz σ.rows)).all fA = true ∧ r = HX (vs.map (pz σ.rows))
def acD (E : Env) (rs : List ResultVar) (r : PV) : PX → PS → Prop
 | .normal, σ => W6 E rs r σ
 | .ret, σ => W6 E rs r σ
 | .exit _, _ => False
def C3 (args : List PV) : PS := ⟨fun s => args.getD s .undef, fun _ => none, 0⟩
section
variable {E : Env} {w0 : World} {S0 : dF} {c : Cx}
theorem qG (hI : Inv w0 S0 c) {clk : Nat} {a : Act} {f : Nat → PV} (hf : ∀ s, aK c (f s) (a.tmps.getD s undef)) {g : ResultVar → Sem Value} (W7 : ∀ t, g (.tmp t) = pure (a.tmps.getD t undef))
  (o7 : ∀ x t, g (.cell x t) = do loadVar t (← asAddr (a.tmps.getD x undef))) : ∀ (rs : List ResultVar) (K : List PV → Prop), oK E ⟨f, c.rows, clk⟩ rs K →
  ∃ vs us, K vs ∧ bB (aK c) vs us ∧ (rs.mapM g : Sem (List Value)).run E.P c.w = .ok us c.w
 | [], K, h => ⟨[], [], h, trivial, by simp⟩
 | .tmp t :: rs, K, h => by
  obtain ⟨vs, us, h1, h2, h3⟩ := qG hI hf W7 o7 rs _ h
  exact ⟨f t :: vs, a.tmps.getD t undef :: us, h1, ⟨hf t, h2⟩, by
   rw [List.mapM_cons, W7, Sem.run_bind, Sem.run_pure, Result.andThen_ok, Sem.run_bind, h3, Result.andThen_ok, Sem.run_pure]⟩
 | .cell x t :: rs, K, h => by
  obtain ⟨v, hv, h⟩ := h
  obtain ⟨vs, us, h1, h2, h3⟩ := qG hI hf W7 o7 rs _ h
  obtain ⟨u, hu, hr⟩ := CS hI (hf x) hv
  refine ⟨v :: vs, u :: us, h1, ⟨hr, h2⟩, ?_⟩
  have SR : (do loadVar t (← asAddr (a.tmps.getD x undef)) : Sem Value).run E.P c.w = .ok u c.w := by
   simp only [Instr.loadAt, Sem.run_bind] at hu ⊢
   cases hx : a.tmps.getD x undef with
   | pointer p =>
    cases p with
    | some ad => rw [hx] at hu; simpa [Instr.sureAddr, asAddr] using hu
    | none => rw [hx] at hu; simp [Instr.sureAddr, stuck, Result.andThen] at hu
   | _ => rw [hx] at hu; simp [Instr.sureAddr, stuck, Result.andThen] at hu
  rw [List.mapM_cons, o7]
  simp only [Sem.run_bind] at SR ⊢
  rw [SR, Result.andThen_ok, h3, Result.andThen_ok, Sem.run_pure]
theorem MH {C4 : FuncId} {fn : Func} {code : Code} {args : List PV} {r : PV} (h1 : E.P.funcs[C4]? = some fn) (h2 : fn.body = some code) (h3 : (fn.name == "runtime.NumGoroutine") = false) (fR : args.length ≤ fn.ntmps)
  (h : ∀ (w0 : World) (S0 : dF) (a : Act) (w : World) (Q' : Exit → Act → World → Prop), Rel w0 S0 fn.ntmps Gs.none (C3 args) a w → (∀ x σ' a' w', acD E fn.results.toList r x σ' → Rel w0 S0 fn.ntmps Gs.none σ' a' w' → Q' (ahB x) a' w') → code.wp E.P Q' a w) : aI E.P C4 args r := by
 refine ⟨⟨fn, code, h1, h2, h3⟩, fun w S vs hS fB => ?_⟩
 have yY := cI.1 fB
 refine calls_of_wp h1 h2 ?_
 have LW : vs.length = args.length := yY.length.symm
 let c0 : Cx := ⟨S, w, fun _ => .slice none 0 0, fun _ => none, fun _ => False⟩
 have hI0 : Inv w S c0 := ⟨Below.refl _ _, fun _ _ h => h, fun _ _ h => .inl h, hS, fun _ _ h => by simp [c0] at h, fun _ _ h => by simp [c0] at h, fun _ _ _ _ _ h => by simp [c0] at h⟩
 have HW : Rel w S fn.ntmps Gs.none (C3 args) { tmps := vs.toArray ++ Array.replicate (fn.ntmps - vs.toArray.size) undef, defers := [] } w := by
  refine ⟨⟨c0, rfl, rfl, fun _ h => h.elim, hI0, fun s => ?_, fun p hp => (Gs.HM hp).elim⟩, by simp; omega, rfl⟩
  simp only [C3]
  by_cases hs : s < args.length
  ·obtain ⟨u, hu, hr⟩ := yY.get (List.getElem?_eq_getElem hs)
   have e1 : args.getD s .undef = args[s] := by simp [List.getD, List.getElem?_eq_getElem hs]
   have e2 : (vs.toArray ++ Array.replicate (fn.ntmps - vs.toArray.size) undef).getD s undef = u := by
    have : s < vs.length := by omega
    simp [this] at hu ⊢
    simp [Array.getElem?_append, this, hu]
   rw [e1]
   show aK c0 args[s] ((vs.toArray ++ Array.replicate (fn.ntmps - vs.toArray.size) undef).getD s undef)
   rw [e2]
   exact aK.i4 hr
  ·have e1 : args.getD s .undef = .undef := by simp [List.getD, List.getElem?_eq_none (show args.length ≤ s by omega)]
   rw [e1]
   simp [aK, aQ]
 refine h _ _ _ _ _ HW ?_
 have fin : ∀ σ' a' w', W6 E fn.results.toList r σ' → Rel w S fn.ntmps Gs.none σ' a' w' → a'.defers = [] ∧ ∃ v, (results fn a'.tmps).run E.P w' = .ok v w' ∧ (∃ v', Ending.returned v = .returned v' ∧ Below w.heap.size w w' ∧
   ∃ S' : dF, (∀ b o, S b o → S' b o) ∧ (∀ b o, S' b o → S b o ∨ (w.heap.size ≤ b ∧ b < w'.heap.size)) ∧ cP S' w' r v') := by
  rintro σ' a' w' hp ⟨⟨c, rfl, hr, eY, hI, hf, _⟩, hn, eN⟩
  refine ⟨eN, ?_⟩
  unfold W6 at hp
  have uP : oK E ⟨σ'.f, c.rows, σ'.clock⟩ fn.results.toList fun vs => dQ c.rows (vs.flatMap dG) ∧ (vs.map (pz c.rows)).all fA = true ∧ r = HX (vs.map (pz c.rows)) := by
   rw [hr]; exact hp
  have amP : ∃ vs us, (dQ c.rows (vs.flatMap dG) ∧ (vs.map (pz c.rows)).all fA = true ∧ r = HX (vs.map (pz c.rows))) ∧ bB (aK c) vs us ∧
    (results fn a'.tmps).run E.P c.w = .ok (if h : us.toArray.size = 1 then us.toArray[0] else .tuple us.toArray) c.w := by
   have key : ∀ g : ResultVar → Sem Value, (∀ t, g (.tmp t) = pure (a'.tmps.getD t undef)) → (∀ x t, g (.cell x t) = do loadVar t (← asAddr (a'.tmps.getD x undef))) →
     ∃ vs us, (dQ c.rows (vs.flatMap dG) ∧ (vs.map (pz c.rows)).all fA = true ∧ r = HX (vs.map (pz c.rows))) ∧ bB (aK c) vs us ∧
      (do let vs ← fn.results.mapM g; pure (if h : vs.size = 1 then vs[0] else .tuple vs) : Sem Value).run E.P c.w = .ok (if h : us.toArray.size = 1 then us.toArray[0] else .tuple us.toArray) c.w := by
    intro g W7 o7
    obtain ⟨vs, us, g1, g4, g5⟩ := qG hI hf W7 o7 _ _ uP
    refine ⟨vs, us, g1, g4, ?_⟩
    have : (fn.results.mapM g).run E.P c.w = .ok us.toArray c.w := by
     rw [Array.mapM_eq_mapM_toList]
     simp [g5]
    rw [Sem.run_bind, this, Result.andThen_ok, Sem.run_pure]
   unfold results
   exact key _ (fun _ => rfl) (fun _ _ => rfl)
  obtain ⟨vs, us, ⟨g1, g2, g3⟩, g4, i5⟩ := amP
  have HO := hI.freeze (vs.flatMap dG)
  have r6 : bB (cP (L6 c (vs.flatMap dG)) c.w) (vs.map (pz c.rows)) us := by
   refine bB.c7 (by simp [g4.length]) fun k p u hp hu => ?_
   simp at hp
   obtain ⟨q, hq, rfl⟩ := hp
   obtain ⟨u', q1, q2⟩ := g4.get hq
   rw [hu] at q1; cases q1
   exact EU hI g1 q2 (fun id gN => by simp only [List.mem_flatMap]; exact ⟨q, List.mem_of_getElem? hq, gN⟩) (List.all_eq_true.1 g2 _ (by simp; exact ⟨q, List.mem_of_getElem? hq, rfl⟩))
  refine ⟨_, i5, _, rfl, hI.below, L6 c (vs.flatMap dG), fun b o h => HO.ext b o h, fun b o h => HO.new b o h, ?_⟩
  rw [g3]
  have hl := r6.length
  cases hm : vs.map (pz c.rows) with
  | nil =>
   rw [hm] at r6 hl
   have : us = [] := List.eq_nil_of_length_eq_zero (by simpa using hl.symm)
   subst this
   simp only [HX, cP]
   exact ⟨[], by simp, by simp [bK]⟩
  | cons p ps =>
   rw [hm] at r6 hl
   match us, r6 with
   | u :: us, r6 =>
    cases ps with
    | nil =>
     match us, r6 with
     | [], r6 => simpa [HX] using r6.1
    | cons q qs =>
     have h2 : ¬ (u :: us).toArray.size = 1 := by simp at hl ⊢; intro h; subst h; simp at hl
     rw [dif_neg h2]
     simp only [HX, cP]
     exact ⟨_, rfl, cI.2 r6⟩
 intro x σ' a' w' hx j6
 cases x with
 | normal => exact fin σ' a' w' hx j6
 | ret => exact fin σ' a' w' hx j6
 | exit id => exact hx.elim
end
section
variable {P : Program} {t : TypeId}
theorem aD {n : Nat} {v : Value} {z : List PV} (h : (P.info? t).bind (fun i => i.zero.map fun v => (i.size, v)) = some (n, v)) (hz : v.cells.toList.map iD = z) (h1 : v.cells.all (·.oneCell') = true) (hl : z.length = n) (hp : 0 < n) : kI P t n z := by
 refine ⟨?_, hl, hp⟩
 cases hi : P.info? t with
 | none => simp [hi] at h
 | some i =>
  cases rB : i.zero with
  | none => simp [hi, rB] at h
  | some v0 =>
   simp [hi, rB] at h
   obtain ⟨rfl, rfl⟩ := h
   exact ⟨i, v0, rfl, rB, rfl, hz, h1⟩
theorem cN {b : Nat} (h : (P.info? t).map (·.bytes) = some b) : ∃ i, P.info? t = some i ∧ i.bytes = b := by
 cases hi : P.info? t with
 | none => simp [hi] at h
 | some i => exact ⟨i, rfl, by simpa [hi] using h⟩
theorem S9 {n : Nat} (h : (P.info? t).map (·.size) = some n) : ∃ i, P.info? t = some i ∧ i.size = n := by
 cases hi : P.info? t with
 | none => simp [hi] at h
 | some i => exact ⟨i, rfl, by simpa [hi] using h⟩
theorem W8 (h : (P.underlying t).isSome = true) : ∃ d, P.underlying t = some d := Option.isSome_iff_exists.1 h
def MI (P : Program) (f : Field) (x : Nat × Nat × Bool) : Bool :=
 f.offset == x.1 && (P.info? f.type).map (·.size) == some x.2.1 && decide (0 < x.2.1) && u0 P f.type == x.2.2 && (P.underlying f.type).isSome
def qH (P : Program) : List Field → List (Nat × Nat × Bool) → Bool
 | [], [] => true
 | f :: fs, x :: xs => MI P f x && qH P fs xs
 | _, _ => false
theorem TA {f : Field} {x : Nat × Nat × Bool} (h : MI P f x = true) : lV P f x := by
 simp only [MI, Bool.and_eq_true, beq_iff_eq, decide_eq_true_eq] at h
 obtain ⟨⟨⟨⟨h1, h2⟩, h3⟩, h4⟩, h5⟩ := h
 exact ⟨h1, S9 h2, h3, h4, W8 h5⟩
theorem zD : ∀ {fs : List Field} {xs : List (Nat × Nat × Bool)}, qH P fs xs = true → bB (lV P) fs xs
 | [], [], _ => trivial
 | f :: fs, x :: xs, h => by
  simp only [qH, Bool.and_eq_true] at h
  exact ⟨TA h.1, zD h.2⟩
 | [], _ :: _, h => by simp [qH] at h
 | _ :: _, [], h => by simp [qH] at h
def P9 (P : Program) (t : TypeId) (xs : List (Nat × Nat × Bool)) : Bool :=
 match P.underlying t with
 | some (.struct fields) => qH P fields.toList xs
 | _ => false
theorem bC {xs : List (Nat × Nat × Bool)} (h : P9 P t xs = true) : ∃ fields : Array Field, P.underlying t = some (.struct fields) ∧ bB (lV P) fields.toList xs := by
 unfold P9 at h
 split at h
 ·rename_i fields hu; exact ⟨fields, hu, zD h⟩
 ·cases h
end
def W (E : Env) (n : Nat) (tl : Nat → Nat) (c : Code) (Q : PX → PS → Prop) (σ : PS) : Prop :=
 eE E n tl c = true → ∀ (w0 : World) (S0 : dF) (G : Gs) (a : Act) (w : World) (Q' : Exit → Act → World → Prop), Rel w0 S0 n G σ a w →
  (∀ x σ' a' w', Q x σ' → Rel w0 S0 n G σ' a' w' → Q' (ahB x) a' w') → c.wp E.P Q' a w
def Gh (n : Nat) (σ σ' : PS) : Prop := ∀ (w0 : World) (S0 : dF) (G : Gs) (a : Act) (w : World), Rel w0 S0 n G σ a w → Rel w0 S0 n G σ' a w
section
variable {E : Env} {n : Nat} {tl : Nat → Nat} {Q : PX → PS → Prop} {σ : PS}
theorem W.ghost {c : Code} {σ' : PS} (h : Gh n σ σ') (hw : W E n tl c Q σ') : W E n tl c Q σ := fun fM w0 S0 G a w Q' hR hQ => hw fM w0 S0 G a w Q' (h _ _ _ _ _ hR) hQ
theorem W.mono {c : Code} {Q2 : PX → PS → Prop} (hw : W E n tl c Q2 σ) (h : ∀ x σ, Q2 x σ → Q x σ) : W E n tl c Q σ := fun fM w0 S0 G a w Q' hR hQ => hw fM w0 S0 G a w Q' hR fun x σ' a' w' hx => hQ x σ' a' w' (h x σ' hx)
theorem W.skip (h : Q .normal σ) : W E n tl .skip Q σ := fun _ _ _ _ a w _ hR hQ => wp_skip (hQ .normal σ a w h hR)
theorem W.ret (h : Q .ret σ) : W E n tl .ret Q σ := fun _ _ _ _ a w _ hR hQ => wp_ret (hQ .ret σ a w h hR)
theorem W.exit {id : Nat} (h : Q (.exit id) σ) : W E n tl (.exit id) Q σ := fun _ _ _ _ a w _ hR hQ => wp_exit (hQ (.exit id) σ a w h hR)
theorem W.HY {id : Nat} {ops : List Oper} (h : ∀ K : PS → Prop, (∀ σ, Q .normal σ → K σ) → aL E ops ops K σ) : W E n tl (.region id ops.toArray false) Q σ := by
 intro fM w0 S0 G a w Q' hR hQ
 simp only [eE, pB, Bool.and_eq_true] at fM
 refine wp_region_list (fX (fun σ' a' w' hk j6 => hQ .normal σ' a' w' hk j6) _ σ a w (fun o ho t ht => ?_) (h _ fun _ h => h) hR)
 have := Array.all_eq_true_iff_forall_mem.1 fM.1 o (by simpa using ho)
 simpa [ht] using this
theorem W.W9 {id : Nat} {ops : List Oper} (h : ∀ K : PS → Prop, (∀ σ, Q .normal σ → K σ) → fD E (tl id) ops K σ) : W E n tl (.region id ops.toArray true) Q σ := by
 intro fM w0 S0 G a w Q' hR hQ
 exact rN (by simpa [eE] using fM) (h _ fun _ h => h) hR fun σ' a' w' hk j6 => hQ .normal σ' a' w' hk j6
theorem W.seq {x y : Code} (h : W E n tl x (B6 (W E n tl y Q) Q) σ) : W E n tl (.seq x y) Q σ := by
 intro fM w0 S0 G a w Q' hR hQ
 simp only [eE, Bool.and_eq_true] at fM
 refine wp_seq (h fM.1 w0 S0 G a w _ hR fun x σ' a' w' hx j6 => ?_)
 cases x with
 | normal => exact hx fM.2 w0 S0 G a' w' _ j6 hQ
 | exit id => exact hQ (.exit id) σ' a' w' hx j6
 | ret => exact hQ .ret σ' a' w' hx j6
theorem W.MJ {id : Nat} {ops : List Oper} {y : Code} (h : ∀ K : PS → Prop, (∀ σ, W E n tl y Q σ → K σ) → aL E ops ops K σ) : W E n tl (.seq (.region id ops.toArray false) y) Q σ :=
 W.seq (W.HY h)
theorem W.XA {id : Nat} {ops : List Oper} {y : Code} (h : ∀ K : PS → Prop, (∀ σ, W E n tl y Q σ → K σ) → fD E (tl id) ops K σ) : W E n tl (.seq (.region id ops.toArray true) y) Q σ :=
 W.seq (W.W9 h)
theorem W.cond {c : Operand} {t e : Code} (h : ∃ b, aR σ.f c = .bool b ∧ (b = true → W E n tl t Q σ) ∧ (b = false → W E n tl e Q σ)) : W E n tl (.cond c t e) Q σ := by
 intro fM w0 S0 G a w Q' hR hQ
 simp only [eE, Bool.and_eq_true] at fM
 obtain ⟨b, hb, h1, h2⟩ := h
 obtain ⟨cx, _, _, _, _, hf, _⟩ := hR.ex
 have := kP hf c
 rw [hb, c8] at this
 refine wp_cond this ?_
 cases b with
 | true => exact h1 rfl fM.1 w0 S0 G a w Q' hR hQ
 | false => exact h2 rfl fM.2 w0 S0 G a w Q' hR hQ
theorem W.block {id : Nat} {c : Code} (h : W E n tl c (B7 id Q) σ) : W E n tl (.block id c) Q σ := by
 intro fM w0 S0 G a w Q' hR hQ
 refine wp_block (h fM w0 S0 G a w _ hR fun x σ' a' w' hx j6 => ?_)
 cases x with
 | normal => exact hQ .normal σ' a' w' hx j6
 | exit j =>
  simp only [B7] at hx
  simp only [ahB, Exit.inBlock]
  split at hx
  ·rename_i hj; rw [if_pos hj]; exact hQ .normal σ' a' w' hx j6
  ·rename_i hj; rw [if_neg hj]; exact hQ (.exit j) σ' a' w' hx j6
 | ret => exact hQ .ret σ' a' w' hx j6
theorem W.loop {c : Code} (I : Nat → PS → Prop) (k : Nat) (h0 : I k σ) (h1 : ∀ k σ, I k σ → W E n tl c (B6 (fun σ' => ∃ m, m < k ∧ I m σ') Q) σ) : W E n tl (.loop c) Q σ := by
 intro fM w0 S0 G a w Q' hR hQ
 refine wp_loop_ghost (fun k a w => ∃ σ, I k σ ∧ Rel w0 S0 n G σ a w) k ⟨σ, h0, hR⟩ ?_
 rintro k a w ⟨σ, hI, hR⟩
 refine h1 k σ hI fM w0 S0 G a w _ hR fun x σ' a' w' hx j6 => ?_
 cases x with
 | normal => obtain ⟨m, hm, uR⟩ := hx; exact ⟨m, hm, σ', uR, j6⟩
 | exit id => exact hQ (.exit id) σ' a' w' hx j6
 | ret => exact hQ .ret σ' a' w' hx j6
end
theorem XB {E : Env} {C4 : FuncId} {fn : Func} {code : Code} (tl : Nat → Nat) {args : List PV} {r : PV} (h1 : E.P.funcs[C4]? = some fn) (h2 : fn.body = some code) (h3 : (fn.name == "runtime.NumGoroutine") = false)
  (fM : eE E fn.ntmps tl code = true) (fR : args.length ≤ fn.ntmps) (h : W E fn.ntmps tl code (acD E fn.results.toList r) (C3 args)) : aI E.P C4 args r :=
 MH h1 h2 h3 fR fun w0 S0 a w Q' hR hQ => h fM w0 S0 Gs.none a w Q' hR hQ
def go (P : Prop) : Prop := P
def aV (R : PV → Prop) (K : PV → Prop) : Prop := ∃ v, R v ∧ K v
def gO (p : PV) (want : Bool) (A B : Prop) : Prop := ∃ t, p = .bool t ∧ (t = want → A) ∧ (t = (!want) → B)
def stepG (p : PV) (want : Bool) (A B : Prop) : Prop := (p = .bool want ∧ A) ∨ ((p = .bool (!want) ∨ p = .dP []) ∧ B)
def aH (A B : Prop) : Prop := A ∧ B
@[congr] theorem afg {R R' K : PV → Prop} (h : ∀ v, R v = R' v) : aV R K = aV R' K := by rw [show R = R' from funext h]
@[congr] theorem afh {p p' : PV} {want : Bool} {A B : Prop} (h : p = p') : gO p want A B = gO p' want A B := by rw [h]
@[congr] theorem afi {p p' : PV} {want : Bool} {A B : Prop} (h : p = p') : stepG p want A B = stepG p' want A B := by rw [h]
@[congr] theorem afj {A A' B : Prop} (h : A = A') : aH A B = aH A' B := by rw [h]
@[congr] theorem ahC {E : Env} {ops l : List Oper} {K : PS → Prop} {σ σ' : PS} (h : σ = σ') : aL E ops l K σ = aL E ops l K σ' := by rw [h]
@[congr] theorem ahD {E : Env} {ops l : List Oper} {clk k k' : Nat} {K : PS → Prop} {σ σ' : ST} (hk : k = k') (h : σ = σ') : aN E ops clk k l K σ = aN E ops clk k' l K σ' := by rw [hk, h]
@[congr] theorem ahE {md : Region.Mode} {ops : List Oper} {j j' k k' : Nat} (hj : j = j') (hk : k = k') : nT md ops j k = nT md ops j' k' := by rw [hj, hk]
@[congr] theorem akD {md : Region.Mode} {ops : List Oper} {i i' id iX : Nat} {t t' : Nat → Nat → Prop} (hi : i = i') (gN : id = iX) (ht : t = t') : y8 md ops i id t = y8 md ops i' iX t' := by rw [hi, gN, ht]
@[congr] theorem ahF {md : Region.Mode} {ops : List Oper} {i i' : Nat} {t t' : Nat → Nat → Prop} {rows rows' : Rows} (hi : i = i') (ht : t = t') (hr : rows = rows') : dR md ops i t rows = dR md ops i' t' rows' := by rw [hi, ht, hr]
@[congr] theorem abS {E : Env} {tl : Nat} {l : List Oper} {K : PS → Prop} {σ σ' : PS} (h : σ = σ') : fD E tl l K σ = fD E tl l K σ' := by rw [h]
@[congr] theorem aqo {E : Env} {n : Nat} {tl : Nat → Nat} {c : Code} {Q : PX → PS → Prop} {σ σ' : PS} (h : σ = σ') : W E n tl c Q σ = W E n tl c Q σ' := by rw [h]
theorem i7 {t : PV} {K : PV → Prop} : aV (fun v => v = t) K = K t := by simp [aV]
theorem TB {t : PV} {K : PV → Prop} : aV (fun v => t = v) K = K t := by simp [aV]
theorem iN {c : Prop} {R K : PV → Prop} : aV (fun v => c ∧ R v) K = aH c (aV R K) := by
 apply propext; simp only [aV, aH]
 constructor
 ·rintro ⟨v, ⟨h1, h2⟩, h3⟩; exact ⟨h1, v, h2, h3⟩
 ·rintro ⟨h1, v, h2, h3⟩; exact ⟨v, ⟨h1, h2⟩, h3⟩
theorem XC {α : Type} {R : α → PV → Prop} {K : PV → Prop} : aV (fun v => ∃ x, R x v) K = ∃ x, aV (R x) K := by
 apply propext; simp only [aV]
 constructor
 ·rintro ⟨v, ⟨x, h2⟩, h3⟩; exact ⟨x, v, h2, h3⟩
 ·rintro ⟨x, v, h2, h3⟩; exact ⟨v, ⟨x, h2⟩, h3⟩
theorem ML {B : Prop} : aH True B = B := by simp [aH]
theorem XD {A B : Prop} : gO (.bool true) true A B = A := by simp [gO]
theorem XE {A B : Prop} : gO (.bool true) false A B = B := by simp [gO]
theorem XF {A B : Prop} : gO (.bool false) true A B = B := by simp [gO]
theorem XG {A B : Prop} : stepG (.bool true) true A B = A := by simp [stepG]
theorem XH {A B : Prop} : stepG (.bool true) false A B = B := by simp [stepG]
theorem XI {A B : Prop} : stepG (.bool false) true A B = B := by simp [stepG]
theorem XJ {A B : Prop} : stepG (.bool false) false A B = A := by simp [stepG]
theorem XK {w : Bool} {A B : Prop} : stepG (.dP []) w A B = B := by simp [stepG]
theorem XL {A B : Prop} : gO (.bool false) false A B = A := by simp [gO]
theorem zE {f : Nat → PV} {d j : Nat} {v : PV} : put f (some d) v j = if j = d then v else f j := rfl
theorem XM {f : Nat → PV} {v : PV} : put f none v = f := rfl
theorem ahG {α : Type} {f : Nat → α} {i j : Nat} {x : α} : dJ f i x j = if j = i then x else f j := rfl
def fa : List (Nat × PV) → Nat → PV
 | [], _ => .undef
 | (i, v) :: l, j => if j = i then v else fa l j
theorem MM {j : Nat} : fa [] j = .undef := rfl
theorem E5 {i j : Nat} {v : PV} {l : List (Nat × PV)} : fa ((i, v) :: l) j = if j = i then v else fa l j := rfl
section
variable {E : Env} {ops os : List Oper} {K : PS → Prop} {f : Nat → PV} {rows : Rows} {clk : Nat} {d : Option Tmp} {ty : TypeId} {pos : String} {af : Array Edge}
theorem aC (n : Nat) (l : List Nat) : Gh n ⟨f, rows, clk⟩ ⟨fa (l.map fun i => (i, f i)), rows, clk⟩ := by
 rintro w0 S0 G a w ⟨⟨c, h1, h2, h3, h4, h5, h6⟩, h7, h8⟩
 refine ⟨⟨c, h1, h2, h3, h4, fun s => ?_, h6⟩, h7, h8⟩
 have : fa (l.map fun i => (i, f i)) s = f s ∨ fa (l.map fun i => (i, f i)) s = .undef := by
  induction l with
  | nil => exact .inr rfl
  | cons i l ih =>
   simp only [List.map_cons, fa]
   split
   ·rename_i h; rw [h]; exact .inl rfl
   ·exact ih
 rcases this with h | h
 ·simp only; rw [h]; exact h5 s
 ·simp only; rw [h]; simp [aK, aQ]
theorem W.live {n : Nat} {tl : Nat → Nat} {c : Code} {Q : PX → PS → Prop} (l : List Nat) (h : W E n tl c Q ⟨fa (l.map fun i => (i, f i)), rows, clk⟩) : W E n tl c Q ⟨f, rows, clk⟩ := W.ghost (aC n l) h
theorem MN {op : Op} {j : Nat} {want : Bool} : aL E ops (⟨d, op, ty, pos, af, some (j, want)⟩ :: os) K ⟨f, rows, clk⟩ =
  match (ops[j]?).bind (·.dst) with
  | none => False
  | some e => stepG (f e) want (aL E ops (⟨d, op, ty, pos, af, none⟩ :: os) K ⟨f, rows, clk⟩) (aL E ops os K ⟨put f d (.dP []), rows, clk⟩) := by
 simp only [aL]
 cases hx : (ops[j]?).bind (·.dst) with
 | none => rfl
 | some e => rfl
theorem bX {R : PV → Prop} {k : PV → Prop} (h : ∀ v, R v ↔ k v) : (∃ v u, (R v ∧ u = none) ∧ K ⟨put f d v, fC rows u, clk⟩) = aV k fun v => K ⟨put f d v, rows, clk⟩ := by
 apply propext; simp only [aV]
 constructor
 ·rintro ⟨v, u, ⟨h1, rfl⟩, h2⟩; exact ⟨v, (h v).1 h1, h2⟩
 ·rintro ⟨v, h1, h2⟩; exact ⟨v, none, ⟨(h v).2 h1, rfl⟩, h2⟩
theorem TC {x : Operand} : aL E ops (⟨d, .move x, ty, pos, af, none⟩ :: os) K ⟨f, rows, clk⟩ = aL E ops os K ⟨put f d (aR f x), rows, clk⟩ := by
 simp only [aL, dW, ys, yv]
 rw [bX (k := fun v => v = aR f x) (fun v => Iff.rfl), i7]
theorem HZ {x : Operand} : aL E ops (⟨d, .assign x, ty, pos, af, none⟩ :: os) K ⟨f, rows, clk⟩ = aL E ops os K ⟨put f d (aR f x), rows, clk⟩ := by
 simp only [aL, dW, ys, yv]
 rw [bX (k := fun v => v = aR f x) (fun v => Iff.rfl), i7]
theorem TD {c a b : Operand} : aL E ops (⟨d, .pick c a b, ty, pos, af, none⟩ :: os) K ⟨f, rows, clk⟩ = gO (aR f c) true (aL E ops os K ⟨put f d (aR f a), rows, clk⟩) (aL E ops os K ⟨put f d (aR f b), rows, clk⟩) := by
 simp only [aL, dW, ys, yv]
 rw [bX (fun v => Iff.rfl)]
 apply propext; simp only [aV, gO]
 constructor
 ·rintro ⟨v, ⟨t, h1, rfl⟩, h2⟩
  refine ⟨t, h1, fun h => ?_, fun h => ?_⟩
  ·subst h; exact h2
  ·subst h; exact h2
 ·rintro ⟨t, h1, h2, h3⟩
  cases t with
  | true => exact ⟨_, ⟨true, h1, rfl⟩, h2 rfl⟩
  | false => exact ⟨_, ⟨false, h1, rfl⟩, h3 rfl⟩
theorem XN {op : BinOp} {t t2 : TypeId} {x y : Operand} : aL E ops (⟨d, .binOp op t x y t2, ty, pos, af, none⟩ :: os) K ⟨f, rows, clk⟩ = aV (fun v => EM E op t (aR f x) (aR f y) v) fun v => aL E ops os K ⟨put f d v, rows, clk⟩ := by
 simp only [aL, dW, ys, yv]
 rw [bX (fun v => Iff.rfl)]
theorem acE {op : UnOp} {t : TypeId} {x : Operand} : aL E ops (⟨d, .unOp op t x, ty, pos, af, none⟩ :: os) K ⟨f, rows, clk⟩ = aV (fun v => yun op (aR f x) v) fun v => aL E ops os K ⟨put f d v, rows, clk⟩ := by
 simp only [aL, dW, ys, yv]
 rw [bX (k := fun v => yun op (aR f x) v) (fun v => Iff.rfl)]
theorem TE {s t : TypeId} {x : Operand} : aL E ops (⟨d, .convert s t x, ty, pos, af, none⟩ :: os) K ⟨f, rows, clk⟩ = aV (fun v => rI (E.ty s) (E.ty t) (aR f x) v) fun v => aL E ops os K ⟨put f d v, rows, clk⟩ := by
 simp only [aL, dW, ys, yv]
 rw [bX (k := fun v => rI (E.ty s) (E.ty t) (aR f x) v) (fun v => Iff.rfl)]
theorem E6 {i : Nat} {x : Operand} : aL E ops (⟨d, .extract x i, ty, pos, af, none⟩ :: os) K ⟨f, rows, clk⟩ = aV (fun v => LQ i (aR f x) v) fun v => aL E ops os K ⟨put f d v, rows, clk⟩ := by
 simp only [aL, dW, ys, yv]
 rw [bX (k := fun v => LQ i (aR f x) v) (fun v => Iff.rfl)]
theorem TF {t : TypeId} {x : Operand} : aL E ops (⟨d, .load t x, ty, pos, af, none⟩ :: os) K ⟨f, rows, clk⟩ = aV (fun v => rG E t rows (aR f x) v) fun v => aL E ops os K ⟨put f d v, rows, clk⟩ := by
 simp only [aL, dW, ys, yv]
 rw [bX (fun v => Iff.rfl)]
theorem MO {t : TypeId} {i : Nat} {x : Operand} : aL E ops (⟨d, .field t x i, ty, pos, af, none⟩ :: os) K ⟨f, rows, clk⟩ = aV (fun v => rU E t i (aR f x) v) fun v => aL E ops os K ⟨put f d v, rows, clk⟩ := by
 simp only [aL, dW, ys, yv]
 rw [bX (fun v => Iff.rfl)]
theorem zF {t : TypeId} {i : Nat} {x : Operand} : aL E ops (⟨d, .fieldAddr t x i, ty, pos, af, none⟩ :: os) K ⟨f, rows, clk⟩ = aV (fun v => eJ E t rows i (aR f x) v) fun v => aL E ops os K ⟨put f d v, rows, clk⟩ := by
 simp only [aL, dW, ys, yv]
 rw [bX (fun v => Iff.rfl)]
theorem zG {t : TypeId} {x y : Operand} : aL E ops (⟨d, .indexAddr t x y, ty, pos, af, none⟩ :: os) K ⟨f, rows, clk⟩ = aV (fun v => eK E t rows (aR f x) (aR f y) v) fun v => aL E ops os K ⟨put f d v, rows, clk⟩ := by
 simp only [aL, dW, ys, yv]
 rw [bX (fun v => Iff.rfl)]
theorem MP {t : TypeId} {x : Operand} {lo hi mx : Option Operand} : aL E ops (⟨d, .slice t x lo hi mx, ty, pos, af, none⟩ :: os) K ⟨f, rows, clk⟩ = aV (fun v => mL E t rows (aR f x) (lo.map (aR f)) (hi.map (aR f)) (mx.map (aR f)) v) fun v => aL E ops os K ⟨put f d v, rows, clk⟩ := by
 simp only [aL, dW, ys, yv]
 rw [bX (fun v => Iff.rfl)]
theorem MQ {t : TypeId} {parts : Array (Nat × Operand)} : aL E ops (⟨d, .build t parts, ty, pos, af, none⟩ :: os) K ⟨f, rows, clk⟩ = aV (fun v => oX (E.ty t) (parts.toList.map fun x => (x.1, aR f x.2)) v) fun v => aL E ops os K ⟨put f d v, rows, clk⟩ := by
 simp only [aL, dW, ys, yv]
 rw [bX (k := fun v => oX (E.ty t) (parts.toList.map fun x => (x.1, aR f x.2)) v) (fun v => Iff.rfl)]
theorem MR {t : TypeId} {x y : Operand} : aL E ops (⟨d, .index t x y, ty, pos, af, none⟩ :: os) K ⟨f, rows, clk⟩ = aV (fun v => rV (E.ty t) (aR f x) (aR f y) v) fun v => aL E ops os K ⟨put f d v, rows, clk⟩ := by
 simp only [aL, dW, ys, yv]
 rw [bX (k := fun v => rV (E.ty t) (aR f x) (aR f y) v) (fun v => Iff.rfl)]
theorem XO {t : TypeId} {x : Operand} : aL E ops (⟨d, .call { callee := .builtin .len, args := ⟨[x]⟩, argTypes := ⟨[t]⟩ }, ty, pos, af, none⟩ :: os) K ⟨f, rows, clk⟩ = aV (fun v => vY (E.ty t) rows (aR f x) v) fun v => aL E ops os K ⟨put f d v, rows, clk⟩ := by
 simp only [aL, dW, ys, yv]
 rw [bX (k := fun v => vY (E.ty t) rows (aR f x) v) (fun v => Iff.rfl)]
theorem B8 {x : Operand} : aL E ops (⟨d, .nilCheck x, ty, pos, af, none⟩ :: os) K ⟨f, rows, clk⟩ = aV (fun v => BX rows (aR f x) v) fun v => aL E ops os K ⟨put f d v, rows, clk⟩ := by
 simp only [aL, dW, ys, yv]
 rw [bX (k := fun v => BX rows (aR f x) v) (fun v => Iff.rfl)]
theorem XP {ts : Array TypeId} {x y : Operand} : aL E ops (⟨d, .call { callee := .builtin .max, args := ⟨[x, y]⟩, argTypes := ts }, ty, pos, af, none⟩ :: os) K ⟨f, rows, clk⟩ = aV (fun v => LS (aR f x) (aR f y) v) fun v => aL E ops os K ⟨put f d v, rows, clk⟩ := by
 simp only [aL, dW, ys, yv]
 rw [bX (fun v => Iff.rfl)]
theorem XQ {ts : Array TypeId} {x y : Operand} : aL E ops (⟨d, .call { callee := .builtin .min, args := ⟨[x, y]⟩, argTypes := ts }, ty, pos, af, none⟩ :: os) K ⟨f, rows, clk⟩ = aV (fun v => LU (aR f x) (aR f y) v) fun v => aL E ops os K ⟨put f d v, rows, clk⟩ := by
 simp only [aL, dW, ys, yv]
 rw [bX (fun v => Iff.rfl)]
theorem xM {t : TypeId} {len : Nat} {parts : Array (Nat × Operand)} : aL E ops (⟨d, .buildSlice t len parts, ty, pos, af, none⟩ :: os) K ⟨f, rows, clk⟩ = aV (fun v => L8 (E.ty t) rows len (parts.toList.map fun x => (x.1, aR f x.2)) v) fun v => aL E ops os K ⟨put f d v, rows, clk⟩ := by
 simp only [aL, dW, ys]
 rw [bX (fun v => Iff.rfl)]
theorem MS {t : TypeId} {p x : Operand} : aL E ops (⟨none, .store t p x, ty, pos, af, none⟩ :: os) K ⟨f, rows, clk⟩ = ∃ id r, o6 E t rows (aR f p) (aR f x) .undef (some (id, r)) ∧ aL E ops os K ⟨f, dJ rows id (some r), clk⟩ := by
 simp only [aL, dW, ys]
 apply propext
 constructor
 ·rintro ⟨v, u, h, h2⟩
  have h' := h
  obtain ⟨_, rfl, h3⟩ := h
  split at h3
  ·obtain ⟨_, _, _, _, _, _, _, _, _, _, rfl⟩ := h3
   exact ⟨_, _, h', h2⟩
  ·exact h3.elim
 ·rintro ⟨id, r, h, h2⟩; exact ⟨.undef, some (id, r), h, h2⟩
theorem MT {t : TypeId} : aL E ops (⟨d, .alloc t, ty, pos, af, none⟩ :: os) K ⟨f, rows, clk⟩ = aH ((E.ty t).known = true) (aL E ops os K ⟨put f d (.ptr (d.getD 0) clk 0 0), dJ rows (d.getD 0) (some ⟨clk, t, (E.ty t).size, [(E.ty t).zero]⟩), clk + 1⟩) := rfl
theorem XR {t : TypeId} {x : Operand} : aL E ops (⟨d, .box t x, ty, pos, af, none⟩ :: os) K ⟨f, rows, clk⟩ = aH ((E.ty t).known = true) (∃ l, bR (aR f x) = some l ∧ (∀ q ∈ l, gV rows q) ∧ l.length = (E.ty t).size ∧ aL E ops os K ⟨put f d (.ptr (d.getD 0) clk 0 0), dJ rows (d.getD 0) (some ⟨clk, t, (E.ty t).size, [l]⟩), clk + 1⟩) := rfl
def pC (t : TI) (x y : PV) (K : TypeId → Nat → List PV → Int → Prop) : Prop :=
 match t, x, y with
 | .slice e n b z, .int _ x, .int _ y => aH (0 ≤ x ∧ x ≤ y ∧ y.toNat ≤ room ∧ y.toNat * b ≤ room) (K e n z x)
 | _, _, _ => False
theorem zH {t : TypeId} {l c : Operand} : aL E ops (⟨d, .makeSlice t l c, ty, pos, af, none⟩ :: os) K ⟨f, rows, clk⟩ = pC (E.ty t) (aR f l) (aR f c) fun e n z x => aL E ops os K ⟨put f d (.own (d.getD 0) clk 0 x.toNat), dJ rows (d.getD 0) (some ⟨clk, e, n, List.replicate x.toNat z⟩), clk + 1⟩ := by
 simp only [aL, dW, pC, EX]
 generalize E.ty t = T
 generalize aR f l = A
 generalize aR f c = B
 cases T with
 | slice e n b z =>
  cases A with
  | int k x =>
   cases B with
   | int k2 y => simp only [aH, and_assoc]
   | _ => rfl
  | _ => rfl
 | _ => rfl
def TG (t : TI) (rows : Rows) (x y : PV) (clk d : Nat) (K : PV → Rows → Nat → Prop) : Prop :=
 match t with
 | .slice e n b _ =>
  ∃ l, s8 rows y l ∧ (∀ e ∈ l, e.length = n) ∧
  match x with
  | .nil => aH (l.length ≤ room ∧ l.length * b ≤ room) (K (.own d clk 0 l.length) (dJ rows d (some ⟨clk, e, n, l⟩)) (clk + 1))
  | .own id ver off len => ∃ r, rows id = some r ∧ r.ver = ver ∧ off = 0 ∧ len = r.els.length ∧ r.e = e ∧ r.size = n ∧ aH (len + l.length ≤ room ∧ (len + l.length) * b ≤ room) (K (.own id clk 0 (len + l.length)) (dJ rows id (some ⟨clk, e, n, r.els ++ l⟩)) (clk + 1))
  | .i3 l0 => (∀ e ∈ l0, e.length = n) ∧ (∀ e ∈ l, ∀ p ∈ e, bY p = true) ∧ aH (l0.length + l.length ≤ room ∧ (l0.length + l.length) * b ≤ room) (K (.sl (l0 ++ l)) rows clk)
  | _ => False
 | _ => False
theorem H0 {t t2 : TypeId} {x y : Operand} : aL E ops (⟨d, .call { callee := .builtin .append, args := ⟨[x, y]⟩, argTypes := ⟨[t, t2]⟩ }, ty, pos, af, none⟩ :: os) K ⟨f, rows, clk⟩ =
  aH (t2 = t ∨ WO (E.ty t2) = true) (TG (E.ty t) rows (aR f x) (aR f y) clk (d.getD 0) fun v rows clk => aL E ops os K ⟨put f d v, rows, clk⟩) := by
 simp only [aL, dW, EY, TG, EX, aH, PS.put]
 congr 1
 generalize E.ty t = T
 generalize aR f x = A
 cases T with
 | slice e n b z =>
  simp only
  congr 1
  funext l
  congr 2
  cases A with
  | nil => simp only [and_assoc]
  | own id ver off len => simp only [and_assoc]
  | i3 l0 => simp only [and_assoc]
  | _ => rfl
 | _ => rfl
end
def tB (P : Program) (g : FuncId) (args : List PV) (K : PV → Prop) : Prop := ∃ v, aI P g args v ∧ K v
@[congr] theorem afk {P : Program} {g : FuncId} {args H3 : List PV} {K : PV → Prop} (h : args = H3) : tB P g args K = tB P g H3 K := by rw [h]
def pD (E : Env) (p : PV) (fH : List PV) (rows : Rows) (clk : Nat) (K : PV → Rows → Nat → Prop) : Prop :=
 match p with
 | .fn g cD => if E.writes g = true then cD = [] ∧ wF E.P g fH rows clk K else aH ((fH.map (pz rows)).all fA = true ∧ dQ rows (fH.flatMap dG)) (tB E.P g (fH.map (pz rows) ++ cD) fun v => K v (CZ rows (fH.flatMap dG)) clk)
 | _ => False
@[congr] theorem acF {E : Env} {p p' : PV} {fH wN : List PV} {rows rows' : Rows} {clk jP : Nat} {K : PV → Rows → Nat → Prop} (h1 : p = p') (h2 : fH = wN) (h3 : rows = rows') (h4 : clk = jP) : pD E p fH rows clk K = pD E p' wN rows' jP K := by rw [h1, h2, h3, h4]
@[congr] theorem afl {P : Program} {g : FuncId} {fH wN : List PV} {rows : Rows} {clk : Nat} {K : PV → Rows → Nat → Prop} (h : fH = wN) : wF P g fH rows clk K = wF P g wN rows clk K := by rw [h]
@[congr] theorem afm {t t' : TI} {x x' y y' : PV} {K : TypeId → Nat → List PV → Int → Prop} (h1 : t = t') (h2 : x = x') (h3 : y = y') : pC t x y K = pC t' x' y' K := by rw [h1, h2, h3]
@[congr] theorem ahH {t t' : TI} {rows rows' : Rows} {x x' y y' : PV} {clk jP d d' : Nat} {K : PV → Rows → Nat → Prop} (h1 : t = t') (h2 : rows = rows') (h3 : x = x') (h4 : y = y') (h5 : clk = jP) (h6 : d = d') :
  TG t rows x y clk d K = TG t' rows' x' y' jP d' K := by rw [h1, h2, h3, h4, h5, h6]
section
variable {E : Env} {ops os : List Oper} {K : PS → Prop} {f : Nat → PV} {rows : Rows} {clk : Nat} {d : Option Tmp} {ty : TypeId} {pos : String} {af : Array Edge}
theorem TH {fo : Operand} {args : Array Operand} {ts : Array TypeId} : aL E ops (⟨d, .call { callee := .value fo, args := args, argTypes := ts }, ty, pos, af, none⟩ :: os) K ⟨f, rows, clk⟩ =
  pD E (aR f fo) (args.toList.map (aR f)) rows clk fun v rows clk => aL E ops os K ⟨put f d v, rows, clk⟩ := by
 simp only [aL, dW, wG, pD, L9, aH, tB]
 generalize aR f fo = A
 have e1 : (args.toList.map fun x => pz rows (aR f x)) = (args.toList.map (aR f)).map (pz rows) := by rw [List.map_map]; rfl
 have e2 : (args.toList.flatMap fun x => dG (aR f x)) = (args.toList.map (aR f)).flatMap dG := by rw [List.flatMap_map]
 rw [e1, e2]
 cases A with
 | fn g cD =>
  have hm : ahf E (.fn g cD) = E.writes g := rfl
  by_cases hw : E.writes g = true
  ·rw [hm, if_pos hw]
   cases cD with
   | nil => simp [hw]
   | cons x l => simp [hw]
  rw [hm, if_neg hw]
  simp only [if_neg hw]
  apply propext
  constructor
  ·rintro ⟨v, ⟨h1, h2⟩, h3, h4⟩; exact ⟨⟨h1, h3⟩, v, h2, h4⟩
  ·rintro ⟨⟨h1, h3⟩, v, h2, h4⟩; exact ⟨v, ⟨h1, h2⟩, h3, h4⟩
 | _ => simp [ahf]
theorem B9 {g : FuncId} {cD : Array Operand} : aL E ops (⟨d, .makeFunc (.func g) ⟨[]⟩ cD, ty, pos, af, none⟩ :: os) K ⟨f, rows, clk⟩ =
  aH (((cD.toList.map (aR f)).map (pz rows)).all fA = true ∧ dQ rows ((cD.toList.map (aR f)).flatMap dG))
   (aL E ops os K ⟨put f d (.fn g ((cD.toList.map (aR f)).map (pz rows))), CZ rows ((cD.toList.map (aR f)).flatMap dG), clk⟩) := by
 simp only [aL, dW, aH, and_assoc]
 have e1 : (cD.toList.map fun x => pz rows (aR f x)) = (cD.toList.map (aR f)).map (pz rows) := by rw [List.map_map]; rfl
 have e2 : (cD.toList.flatMap fun x => dG (aR f x)) = (cD.toList.map (aR f)).flatMap dG := by rw [List.flatMap_map]
 rw [e1, e2]
def j7 (k : Nat) (l : List Nat) (t : Nat → Nat → Prop) : Nat → Nat → Prop := fun k' id => (true = true ∧ k' = k ∧ id ∈ l) ∨ t k' id
def nV (k id : Nat) (w : Nat → Nat → Prop) : Nat → Nat → Prop := fun k' iX => (k' = k ∧ iX = id) ∨ w k' iX
variable {k : Nat} {bN : Nat → Nat → Prop} {aO : Nat → Nat → Prop}
theorem MU {op : Op} {j : Nat} {want : Bool} : aN E ops clk k (⟨d, op, ty, pos, af, some (j, want)⟩ :: os) K ⟨f, rows, bN, aO⟩ =
  match (ops[j]?).bind (·.dst) with
  | none => False
  | some e => stepG (f e) want (aN E ops clk k (⟨d, op, ty, pos, af, none⟩ :: os) K ⟨f, rows, bN, aO⟩) (aN E ops clk (k + 1) os K ⟨put f d (.dP []), rows, bN, aO⟩) := by
 have e3 : app k ⟨d, op, ty, pos, af, some (j, want)⟩ false (.dP []) none ⟨f, rows, bN, aO⟩ = ⟨put f d (.dP []), rows, bN, aO⟩ := by simp [app, fC, wlU]
 simp only [aN, e3]
 cases hx : (ops[j]?).bind (·.dst) with
 | none => rfl
 | some e => rfl
theorem cK {o : Oper} {R : PV → Prop} {kk : PV → Prop} {st : ST} (h : ∀ v, R v ↔ kk v) : (∃ v u, (R v ∧ u = none) ∧ S4 .any ops k u bN ∧ aN E ops clk (k + 1) os K (app k o true v u st)) = aV kk fun v => aN E ops clk (k + 1) os K (app k o true v none st) := by
 apply propext; simp only [aV]
 constructor
 ·rintro ⟨v, u, ⟨h1, rfl⟩, _, h2⟩; exact ⟨v, (h v).1 h1, h2⟩
 ·rintro ⟨v, h1, h2⟩; exact ⟨v, none, ⟨(h v).2 h1, rfl⟩, trivial, h2⟩
theorem eF {op : Op} {v : PV} (h : gQ op (aR f) = []) : app k ⟨d, op, ty, pos, af, none⟩ true v none ⟨f, rows, bN, aO⟩ = ⟨put f d v, rows, bN, aO⟩ := by simp [app, fC, wlU, h]
theorem qI {op : Op} {v : PV} {l : List Nat} (h : gQ op (aR f) = l) : app k ⟨d, op, ty, pos, af, none⟩ true v none ⟨f, rows, bN, aO⟩ = ⟨put f d v, rows, j7 k l bN, aO⟩ := by subst h; rfl
theorem TJ {x : Operand} : aN E ops clk k (⟨d, .move x, ty, pos, af, none⟩ :: os) K ⟨f, rows, bN, aO⟩ = aN E ops clk (k + 1) os K ⟨put f d (aR f x), rows, bN, aO⟩ := by
 simp only [aN, yn, gR, ys, yv]
 rw [cK (kk := fun v => v = aR f x) (fun v => Iff.rfl), i7, eF rfl]
theorem H4 {x : Operand} : aN E ops clk k (⟨d, .assign x, ty, pos, af, none⟩ :: os) K ⟨f, rows, bN, aO⟩ = aN E ops clk (k + 1) os K ⟨put f d (aR f x), rows, bN, aO⟩ := by
 simp only [aN, yn, gR, ys, yv]
 rw [cK (kk := fun v => v = aR f x) (fun v => Iff.rfl), i7, eF rfl]
theorem TK {c a b : Operand} : aN E ops clk k (⟨d, .pick c a b, ty, pos, af, none⟩ :: os) K ⟨f, rows, bN, aO⟩ = gO (aR f c) true (aN E ops clk (k + 1) os K ⟨put f d (aR f a), rows, bN, aO⟩) (aN E ops clk (k + 1) os K ⟨put f d (aR f b), rows, bN, aO⟩) := by
 simp only [aN, yn, gR, ys, yv]
 rw [cK (fun v => Iff.rfl)]
 apply propext; simp only [aV, gO, eF (op := .pick c a b) rfl]
 constructor
 ·rintro ⟨v, ⟨t, h1, rfl⟩, h2⟩
  refine ⟨t, h1, fun h => ?_, fun h => ?_⟩
  ·subst h; exact h2
  ·subst h; exact h2
 ·rintro ⟨t, h1, h2, h3⟩
  cases t with
  | true => exact ⟨_, ⟨true, h1, rfl⟩, h2 rfl⟩
  | false => exact ⟨_, ⟨false, h1, rfl⟩, h3 rfl⟩
theorem XS {op : BinOp} {t t2 : TypeId} {x y : Operand} : aN E ops clk k (⟨d, .binOp op t x y t2, ty, pos, af, none⟩ :: os) K ⟨f, rows, bN, aO⟩ = aV (fun v => EM E op t (aR f x) (aR f y) v) fun v => aN E ops clk (k + 1) os K ⟨put f d v, rows, bN, aO⟩ := by
 simp only [aN, yn, gR, ys, yv]; rw [cK (fun v => Iff.rfl)]; simp only [eF (op := .binOp op t x y t2) rfl]
theorem acG {op : UnOp} {t : TypeId} {x : Operand} : aN E ops clk k (⟨d, .unOp op t x, ty, pos, af, none⟩ :: os) K ⟨f, rows, bN, aO⟩ = aV (fun v => yun op (aR f x) v) fun v => aN E ops clk (k + 1) os K ⟨put f d v, rows, bN, aO⟩ := by
 simp only [aN, yn, gR, ys, yv]; rw [cK (fun v => Iff.rfl)]; simp only [eF (op := .unOp op t x) rfl]
theorem TL {s t : TypeId} {x : Operand} : aN E ops clk k (⟨d, .convert s t x, ty, pos, af, none⟩ :: os) K ⟨f, rows, bN, aO⟩ = aV (fun v => rI (E.ty s) (E.ty t) (aR f x) v) fun v => aN E ops clk (k + 1) os K ⟨put f d v, rows, bN, aO⟩ := by
 simp only [aN, yn, gR, ys, yv]; rw [cK (fun v => Iff.rfl)]; simp only [eF (op := .convert s t x) rfl]
theorem E7 {i : Nat} {x : Operand} : aN E ops clk k (⟨d, .extract x i, ty, pos, af, none⟩ :: os) K ⟨f, rows, bN, aO⟩ = aV (fun v => LQ i (aR f x) v) fun v => aN E ops clk (k + 1) os K ⟨put f d v, rows, bN, aO⟩ := by
 simp only [aN, yn, gR, ys, yv]; rw [cK (fun v => Iff.rfl)]; simp only [eF (op := .extract x i) rfl]
theorem TM {t : TypeId} {x : Operand} : aN E ops clk k (⟨d, .load t x, ty, pos, af, none⟩ :: os) K ⟨f, rows, bN, aO⟩ = aV (fun v => rG E t (dR .any ops k aO rows) (aR f x) v) fun v => aN E ops clk (k + 1) os K ⟨put f d v, rows, j7 k (a9 (aR f x)) bN, aO⟩ := by
 simp only [aN, yn, gR, ys, yv]; rw [cK (fun v => Iff.rfl)]; simp only [qI (op := .load t x) rfl]; rfl
theorem MV {t : TypeId} {i : Nat} {x : Operand} : aN E ops clk k (⟨d, .field t x i, ty, pos, af, none⟩ :: os) K ⟨f, rows, bN, aO⟩ = aV (fun v => rU E t i (aR f x) v) fun v => aN E ops clk (k + 1) os K ⟨put f d v, rows, bN, aO⟩ := by
 simp only [aN, yn, gR, ys, yv]; rw [cK (fun v => Iff.rfl)]; simp only [eF (op := .field t x i) rfl]
theorem zI {t : TypeId} {i : Nat} {x : Operand} : aN E ops clk k (⟨d, .fieldAddr t x i, ty, pos, af, none⟩ :: os) K ⟨f, rows, bN, aO⟩ = aV (fun v => eJ E t (dR .any ops k aO rows) i (aR f x) v) fun v => aN E ops clk (k + 1) os K ⟨put f d v, rows, j7 k (a9 (aR f x)) bN, aO⟩ := by
 simp only [aN, yn, gR, ys, yv]; rw [cK (fun v => Iff.rfl)]; simp only [qI (op := .fieldAddr t x i) rfl]; rfl
theorem zJ {t : TypeId} {x y : Operand} : aN E ops clk k (⟨d, .indexAddr t x y, ty, pos, af, none⟩ :: os) K ⟨f, rows, bN, aO⟩ = aV (fun v => eK E t (dR .any ops k aO rows) (aR f x) (aR f y) v) fun v => aN E ops clk (k + 1) os K ⟨put f d v, rows, j7 k (a9 (aR f x)) bN, aO⟩ := by
 simp only [aN, yn, gR, ys, yv]; rw [cK (fun v => Iff.rfl)]; simp only [qI (op := .indexAddr t x y) rfl]; rfl
theorem MW {t : TypeId} {x : Operand} {lo hi mx : Option Operand} : aN E ops clk k (⟨d, .slice t x lo hi mx, ty, pos, af, none⟩ :: os) K ⟨f, rows, bN, aO⟩ = aV (fun v => mL E t (dR .any ops k aO rows) (aR f x) (lo.map (aR f)) (hi.map (aR f)) (mx.map (aR f)) v) fun v => aN E ops clk (k + 1) os K ⟨put f d v, rows, j7 k (a9 (aR f x)) bN, aO⟩ := by
 simp only [aN, yn, gR, ys, yv]; rw [cK (fun v => Iff.rfl)]; simp only [qI (op := .slice t x lo hi mx) rfl]; rfl
theorem MX {t : TypeId} {parts : Array (Nat × Operand)} : aN E ops clk k (⟨d, .build t parts, ty, pos, af, none⟩ :: os) K ⟨f, rows, bN, aO⟩ = aV (fun v => oX (E.ty t) (parts.toList.map fun x => (x.1, aR f x.2)) v) fun v => aN E ops clk (k + 1) os K ⟨put f d v, rows, bN, aO⟩ := by
 simp only [aN, yn, gR, ys, yv]; rw [cK (fun v => Iff.rfl)]; simp only [eF (op := .build t parts) rfl]
theorem XT {t : TypeId} {x : Operand} : aN E ops clk k (⟨d, .call { callee := .builtin .len, args := ⟨[x]⟩, argTypes := ⟨[t]⟩ }, ty, pos, af, none⟩ :: os) K ⟨f, rows, bN, aO⟩ = aV (fun v => vY (E.ty t) (dR .any ops k aO rows) (aR f x) v) fun v => aN E ops clk (k + 1) os K ⟨put f d v, rows, j7 k (a9 (aR f x)) bN, aO⟩ := by
 simp only [aN, yn, gR, ys, yv]; rw [cK (fun v => Iff.rfl)]; simp only [qI (op := .call { callee := .builtin .len, args := ⟨[x]⟩, argTypes := ⟨[t]⟩ }) rfl]; rfl
theorem CA {x : Operand} : aN E ops clk k (⟨d, .nilCheck x, ty, pos, af, none⟩ :: os) K ⟨f, rows, bN, aO⟩ = aV (fun v => BX (dR .any ops k aO rows) (aR f x) v) fun v => aN E ops clk (k + 1) os K ⟨put f d v, rows, j7 k (a9 (aR f x)) bN, aO⟩ := by
 simp only [aN, yn, gR, ys, yv]; rw [cK (fun v => Iff.rfl)]; simp only [qI (op := .nilCheck x) rfl]; rfl
theorem XU {ts : Array TypeId} {x y : Operand} : aN E ops clk k (⟨d, .call { callee := .builtin .max, args := ⟨[x, y]⟩, argTypes := ts }, ty, pos, af, none⟩ :: os) K ⟨f, rows, bN, aO⟩ = aV (fun v => LS (aR f x) (aR f y) v) fun v => aN E ops clk (k + 1) os K ⟨put f d v, rows, bN, aO⟩ := by
 simp only [aN, yn, gR, ys, yv]; rw [cK (fun v => Iff.rfl)]; simp only [eF (op := .call { callee := .builtin .max, args := ⟨[x, y]⟩, argTypes := ts }) rfl]
theorem XV {ts : Array TypeId} {x y : Operand} : aN E ops clk k (⟨d, .call { callee := .builtin .min, args := ⟨[x, y]⟩, argTypes := ts }, ty, pos, af, none⟩ :: os) K ⟨f, rows, bN, aO⟩ = aV (fun v => LU (aR f x) (aR f y) v) fun v => aN E ops clk (k + 1) os K ⟨put f d v, rows, bN, aO⟩ := by
 simp only [aN, yn, gR, ys, yv]; rw [cK (fun v => Iff.rfl)]; simp only [eF (op := .call { callee := .builtin .min, args := ⟨[x, y]⟩, argTypes := ts }) rfl]
theorem CB {g : FuncId} {cD : Array Operand} : aN E ops clk k (⟨d, .makeFunc (.func g) ⟨[]⟩ cD, ty, pos, af, none⟩ :: os) K ⟨f, rows, bN, aO⟩ = aH ((cD.toList.map fun x => aR f x).all fA = true) (aN E ops clk (k + 1) os K ⟨put f d (.fn g (cD.toList.map fun x => aR f x)), rows, bN, aO⟩) := by
 simp only [aN, yn, gR, ys, yv]
 rw [cK (fun v => Iff.rfl), iN, i7]; simp only [eF (op := .makeFunc (.func g) ⟨[]⟩ cD) rfl]
theorem xN {t : TypeId} {len : Nat} {parts : Array (Nat × Operand)} : aN E ops clk k (⟨d, .buildSlice t len parts, ty, pos, af, none⟩ :: os) K ⟨f, rows, bN, aO⟩ = aV (fun v => L8 (E.ty t) (dR .any ops k aO rows) len (parts.toList.map fun x => (x.1, aR f x.2)) v) fun v => aN E ops clk (k + 1) os K ⟨put f d v, rows, bN, aO⟩ := by
 simp only [aN, yn, gR, ys]; rw [cK (fun v => Iff.rfl)]; simp only [eF (op := .buildSlice t len parts) rfl]
theorem MY {t : TypeId} {p x : Operand} : aN E ops clk k (⟨none, .store t p x, ty, pos, af, none⟩ :: os) K ⟨f, rows, bN, aO⟩ =
  ∃ id r, o6 E t (dR .any ops k aO rows) (aR f p) (aR f x) .undef (some (id, r)) ∧ y8 .any ops k id bN ∧ aN E ops clk (k + 1) os K ⟨f, dJ rows id (some r), j7 k (a9 (aR f p) ++ ((bR (aR f x)).getD []).flatMap a9) bN, nV k id aO⟩ := by
 simp only [aN, yn, gR, ys]
 apply propext
 constructor
 ·rintro ⟨v, u, h, h1, h2⟩
  have h' := h
  obtain ⟨_, rfl, h3⟩ := h
  split at h3
  ·obtain ⟨_, _, _, _, _, _, _, _, _, _, rfl⟩ := h3
   exact ⟨_, _, h', h1, h2⟩
  ·exact h3.elim
 ·rintro ⟨id, r, h, h1, h2⟩; exact ⟨.undef, some (id, r), h, h1, h2⟩
theorem XW {o : Oper} {R : PV → Option (Nat × Row) → Prop} {C : Prop} {v0 : PV} {e : Nat} {r0 : Row} {st : ST} {jP : Nat} (h : ∀ v u, R v u ↔ (C ∧ v = v0 ∧ u = some (e, r0))) : (∃ v u, R v u ∧ S4 .any ops k u bN ∧ aN E ops jP (k + 1) os K (app k o true v u st)) = aH (C ∧ y8 .any ops k e bN) (aN E ops jP (k + 1) os K (app k o true v0 (some (e, r0)) st)) := by
 apply propext; simp only [aH]
 constructor
 ·rintro ⟨v, u, h1, h2, h3⟩
  obtain ⟨hc, rfl, rfl⟩ := (h v u).1 h1
  exact ⟨⟨hc, h2⟩, h3⟩
 ·rintro ⟨⟨h1, h2⟩, h3⟩; exact ⟨v0, _, (h _ _).2 ⟨h1, rfl, rfl⟩, h2, h3⟩
theorem tC {op : Op} {v : PV} {e : Nat} {r0 : Row} (h : gQ op (aR f) = []) : app k ⟨d, op, ty, pos, af, none⟩ true v (some (e, r0)) ⟨f, rows, bN, aO⟩ = ⟨put f d v, dJ rows e (some r0), bN, nV k e aO⟩ := by simp only [app, fC, wlU, h, List.not_mem_nil, and_false, false_or]; rfl
theorem MZ {t : TypeId} : aN E ops clk k (⟨d, .alloc t, ty, pos, af, none⟩ :: os) K ⟨f, rows, bN, aO⟩ = aH ((E.ty t).known = true ∧ y8 .any ops k (d.getD 0) bN) (aN E ops (clk + 1) (k + 1) os K ⟨put f d (.ptr (d.getD 0) clk 0 0), dJ rows (d.getD 0) (some ⟨clk, t, (E.ty t).size, [(E.ty t).zero]⟩), bN, nV k (d.getD 0) aO⟩) := by
 simp only [aN, yn, gR]
 rw [XW (C := (E.ty t).known = true) (v0 := .ptr (d.getD 0) clk 0 0) (e := d.getD 0) (r0 := ⟨clk, t, (E.ty t).size, [(E.ty t).zero]⟩) (fun v u => by simp), tC (op := .alloc t) rfl]
theorem XX {t : TypeId} {x : Operand} : aN E ops clk k (⟨d, .box t x, ty, pos, af, none⟩ :: os) K ⟨f, rows, bN, aO⟩ = aH ((E.ty t).known = true) (∃ l, bR (aR f x) = some l ∧ ((∀ q ∈ l, gV (fun _ => none) q) ∧ l.length = (E.ty t).size ∧ y8 .any ops k (d.getD 0) bN) ∧
  aN E ops (clk + 1) (k + 1) os K ⟨put f d (.ptr (d.getD 0) clk 0 0), dJ rows (d.getD 0) (some ⟨clk, t, (E.ty t).size, [l]⟩), bN, nV k (d.getD 0) aO⟩) := by
 simp only [aN, yn, gR]
 apply propext
 constructor
 ·rintro ⟨v, u, ⟨h1, l, h2, h3, h4, rfl, rfl⟩, h5, h6⟩
  rw [tC (op := .box t x) rfl] at h6
  exact ⟨h1, l, h2, ⟨h3, h4, h5⟩, h6⟩
 ·rintro ⟨h1, l, h2, ⟨h3, h4, h5⟩, h6⟩
  refine ⟨_, _, ⟨h1, l, h2, h3, h4, rfl, rfl⟩, h5, ?_⟩
  rw [tC (op := .box t x) rfl]; exact h6
theorem zK {t : TypeId} {l c : Operand} : aN E ops clk k (⟨d, .makeSlice t l c, ty, pos, af, none⟩ :: os) K ⟨f, rows, bN, aO⟩ = pC (E.ty t) (aR f l) (aR f c) fun e n z x => aH (y8 .any ops k (d.getD 0) bN) (aN E ops (clk + 1) (k + 1) os K ⟨put f d (.own (d.getD 0) clk 0 x.toNat), dJ rows (d.getD 0) (some ⟨clk, e, n, List.replicate x.toNat z⟩), bN, nV k (d.getD 0) aO⟩) := by
 have WI : ∀ {v e' r0}, app k ⟨d, .makeSlice t l c, ty, pos, af, none⟩ true v (some (e', r0)) ⟨f, rows, bN, aO⟩ = ⟨put f d v, dJ rows e' (some r0), bN, nV k e' aO⟩ := tC rfl
 simp only [aN, yn, gR, pC]
 generalize E.ty t = T
 generalize aR f l = A
 generalize aR f c = B
 cases T with
 | slice e n b z =>
  cases A with
  | int k1 x =>
   cases B with
   | int k2 y =>
    apply propext
    simp only [aH]
    constructor
    ·rintro ⟨v, u, ⟨h1, h2, h3, h4, rfl, rfl⟩, h5, h6⟩
     rw [WI] at h6
     exact ⟨⟨h1, h2, h3, h4⟩, h5, h6⟩
    ·rintro ⟨⟨h1, h2, h3, h4⟩, h5, h6⟩
     refine ⟨_, _, ⟨h1, h2, h3, h4, rfl, rfl⟩, h5, ?_⟩
     rw [WI]; exact h6
   | _ => simp
  | _ => simp
 | _ => simp
theorem H5 {t t2 : TypeId} {x y : Operand} : aN E ops clk k (⟨d, .call { callee := .builtin .append, args := ⟨[x, y]⟩, argTypes := ⟨[t, t2]⟩ }, ty, pos, af, none⟩ :: os) K ⟨f, rows, bN, aO⟩ =
  aH (t2 = t ∨ WO (E.ty t2) = true) (∃ v id r, pA (E.ty t) (dR .any ops k aO rows) (aR f x) (aR f y) clk (d.getD 0) v (some (id, r)) ∧ y8 .any ops k id bN ∧
   aN E ops (clk + 1) (k + 1) os K ⟨put f d v, dJ rows id (some r), j7 k (a9 (aR f x) ++ a9 (aR f y)) bN, nV k id aO⟩) := by
 have WI : ∀ {v e' r0}, app k ⟨d, .call { callee := .builtin .append, args := ⟨[x, y]⟩, argTypes := ⟨[t, t2]⟩ }, ty, pos, af, none⟩ true v (some (e', r0)) ⟨f, rows, bN, aO⟩ = ⟨put f d v, dJ rows e' (some r0), j7 k (a9 (aR f x) ++ a9 (aR f y)) bN, nV k e' aO⟩ := rfl
 simp only [aN, yn, gR, aH]
 apply propext
 constructor
 ·rintro ⟨v, u, ⟨h1, h2⟩, h3, h4⟩
  refine ⟨h1, ?_⟩
  have h2' := h2
  unfold pA at h2'
  split at h2'
  ·obtain ⟨l, g1, g2, g3⟩ := h2'
   split at g3
   ·obtain ⟨_, _, rfl, rfl⟩ := g3
    exact ⟨_, _, _, h2, h3, h4⟩
   ·obtain ⟨r, _, _, _, _, _, _, _, _, rfl, rfl⟩ := g3
    exact ⟨_, _, _, h2, h3, h4⟩
   ·exact g3.elim
  ·exact h2'.elim
 ·rintro ⟨h1, v, id, r, h2, h3, h4⟩
  exact ⟨v, _, ⟨h1, h2⟩, h3, h4⟩
def nW (E : Env) (p : PV) (fH : List PV) (rows : Rows) (K : PV → Prop) : Prop :=
 match p with
 | .fn g cD => aH ((fH.map (pz rows)).all fA = true ∧ fH.flatMap dG = []) (tB E.P g (fH.map (pz rows) ++ cD) K)
 | _ => False
@[congr] theorem acH {E : Env} {p p' : PV} {fH wN : List PV} {rows rows' : Rows} {K : PV → Prop} (h1 : p = p') (h2 : fH = wN) (h3 : rows = rows') : nW E p fH rows K = nW E p' wN rows' K := by rw [h1, h2, h3]
theorem C5 {fo : Operand} {args : Array Operand} {ts : Array TypeId} (hfo : cZ E (.call { callee := .value fo, args := args, argTypes := ts }) = false) : aN E ops clk k (⟨d, .call { callee := .value fo, args := args, argTypes := ts }, ty, pos, af, none⟩ :: os) K ⟨f, rows, bN, aO⟩ =
  nW E (aR f fo) (args.toList.map (aR f)) (dR .any ops k aO rows) fun v => aN E ops clk (k + 1) os K ⟨put f d v, rows, bN, aO⟩ := by
 simp only [aN]
 rw [y9 hfo]
 simp only [y7 hfo, ys, wG, nW, aH, tB]
 generalize hA : aR f fo = A
 have e1 : (args.toList.map fun x => pz (dR .any ops k aO rows) (aR f x)) = (args.toList.map (aR f)).map (pz (dR .any ops k aO rows)) := by rw [List.map_map]; rfl
 have e2 : (args.toList.flatMap fun x => dG (aR f x)) = (args.toList.map (aR f)).flatMap dG := by rw [List.flatMap_map]
 rw [e1, e2]
 have e3 : ∀ v, app k ⟨d, .call { callee := .value fo, args := args, argTypes := ts }, ty, pos, af, none⟩ true v none ⟨f, rows, bN, aO⟩ = ⟨put f d v, rows, bN, aO⟩ := fun v => eF rfl
 cases A with
 | fn g cD =>
  apply propext
  constructor
  ·rintro ⟨v, u, ⟨rfl, ⟨h1, h2⟩, h3⟩, _, h4⟩; rw [e3] at h4; exact ⟨⟨h1, h3⟩, v, h2, h4⟩
  ·rintro ⟨⟨h1, h3⟩, v, h2, h4⟩; exact ⟨v, none, ⟨rfl, ⟨h1, h2⟩, h3⟩, trivial, by rw [e3]; exact h4⟩
 | _ => simp
theorem M0 {g : FuncId} {args : Array Operand} {ts : Array TypeId} (hw : E.writes g = true) : aN E ops clk k (⟨d, .call { callee := .value (.func g), args := args, argTypes := ts }, ty, pos, af, none⟩ :: os) K ⟨f, rows, bN, aO⟩ =
  ∃ e n els, ((args.toList.map (aR f)).all fA = true ∧ fO E.P g (args.toList.map (aR f)) e n els ∧ y8 .any ops k (d.getD 0) bN) ∧ aN E ops (clk + 1) (k + 1) os K ⟨put f d (.own (d.getD 0) clk 0 els.length), dJ rows (d.getD 0) (some ⟨clk, e, n, els⟩), bN, nV k (d.getD 0) aO⟩ := by
 have WI : ∀ {v e' r0}, app k ⟨d, .call { callee := .value (.func g), args := args, argTypes := ts }, ty, pos, af, none⟩ true v (some (e', r0)) ⟨f, rows, bN, aO⟩ = ⟨put f d v, dJ rows e' (some r0), bN, nV k e' aO⟩ := tC rfl
 simp only [aN, yn, gR]
 rw [if_pos hw]
 simp only [if_pos hw]
 apply propext
 constructor
 ·rintro ⟨v, u, ⟨h1, e, n, els, h2, rfl, rfl⟩, h3, h4⟩
  rw [WI] at h4
  exact ⟨e, n, els, ⟨h1, h2, h3⟩, h4⟩
 ·rintro ⟨e, n, els, ⟨h1, h2, h3⟩, h4⟩
  refine ⟨_, _, ⟨h1, e, n, els, h2, rfl, rfl⟩, h3, ?_⟩
  rw [WI]; exact h4
@[simp] theorem amQ {md : Region.Mode} {ops : List Oper} {j : Nat} {rows : Rows} : dR md ops j (fun _ _ => False) rows = rows := by
 funext id; simp [dR]
@[simp] theorem amR {md : Region.Mode} {ops : List Oper} {j k id : Nat} {w : Nat → Nat → Prop} {rows : Rows} : dR md ops j (nV k id w) rows = if nT md ops j k = true then dR md ops j w rows else dJ (dR md ops j w rows) id none := by
 funext x
 unfold dR nV
 by_cases hd : nT md ops j k = true
 ·rw [if_pos hd]
  have : (∃ k', ((k' = k ∧ x = id) ∨ w k' x) ∧ nT md ops j k' = false) ↔ ∃ k', w k' x ∧ nT md ops j k' = false := by
   constructor
   ·rintro ⟨k', ⟨rfl, _⟩ | h, h2⟩
    ·rw [hd] at h2; cases h2
    ·exact ⟨k', h, h2⟩
   ·rintro ⟨k', h, h2⟩; exact ⟨k', .inr h, h2⟩
  exact (by classical exact ite_congr (propext this) (fun _ => rfl) (fun _ => rfl))
 ·rw [if_neg hd]
  have W3 : nT md ops j k = false := by simpa using hd
  simp only [dJ]
  by_cases hx : x = id
  ·rw [if_pos hx, if_pos ⟨k, .inl ⟨rfl, hx⟩, W3⟩]
  ·rw [if_neg hx]
   have : (∃ k', ((k' = k ∧ x = id) ∨ w k' x) ∧ nT md ops j k' = false) ↔ ∃ k', w k' x ∧ nT md ops j k' = false := by
    constructor
    ·rintro ⟨k', ⟨_, h⟩ | h, h2⟩
     ·exact absurd h hx
     ·exact ⟨k', h, h2⟩
    ·rintro ⟨k', h, h2⟩; exact ⟨k', .inr h, h2⟩
   exact (by classical exact ite_congr (propext this) (fun _ => rfl) (fun _ => rfl))
@[simp] theorem aqp {md : Region.Mode} {ops : List Oper} {i id : Nat} : y8 md ops i id (fun _ _ => False) = True := by simp [y8]
@[simp] theorem aqq {md : Region.Mode} {ops : List Oper} {i id k : Nat} {l : List Nat} {t : Nat → Nat → Prop} : y8 md ops i id (j7 k l t) = ((id ∈ l → nT md ops i k = true) ∧ y8 md ops i id t) := by
 apply propext
 unfold y8 j7
 constructor
 ·intro h; exact ⟨fun hi => h k (.inl ⟨rfl, rfl, hi⟩), fun k' hk => h k' (.inr hk)⟩
 ·rintro ⟨h1, h2⟩ k' (⟨_, rfl, h⟩ | h)
  ·exact h1 h
  ·exact h2 k' h
end
end Pm
