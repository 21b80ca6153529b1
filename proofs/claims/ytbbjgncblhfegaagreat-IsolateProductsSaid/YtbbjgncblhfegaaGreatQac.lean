import Derived.StillTail
import Derived.Deep.LoopGhost
import Derived.Test.YtbbjgncblhfegaaGreatQab
set_option linter.unusedSimpArgs false
set_option linter.unusedVariables false
namespace Pm
open Go Go.RowKit
def jL (P : Program) (f : FuncId) (args : List PV) (e : TypeId) (n : Nat) (els : List (List PV)) : Prop :=
 (∃ fn c, P.funcs[f]? = some fn ∧ fn.body = some c ∧ (fn.name == "runtime.NumGoroutine") = false) ∧
 ∀ (w : World) (S : dB) (vs : List Value), (∀ b o, S b o → b < w.heap.size) → bJ S w args vs →
  Calls P f vs.toArray w fun x w' => ∃ (v : Value) (xs : List Value) (S' : dB), x = .returned v ∧ Below w.heap.size w w' ∧ (∀ b o, S b o → S' b o) ∧ (∀ b o, S' b o → S b o ∨ (w.heap.size ≤ b ∧ b < w'.heap.size)) ∧
   w'.ownsRow w.heap.size e n v els.length xs ∧ a7 (cL S' w') els.flatten xs ∧ (∀ y ∈ xs, y.oneCell' = true) ∧ (∀ x ∈ els, x.length = n) ∧ 0 < n ∧ (∀ g o, v.ownBlock = some g → ¬ S' g o)
def RM (md : Region.Mode) (ops : List Oper) (j k : Nat) : Bool :=
 match ops[j]? with
 | some o => o.after.toList.any fun e => Region.binds md e && e.on == k
 | none => false
def nB (md : Region.Mode) (ops : List Oper) (j k : Nat) : Bool := RM md ops j k || (List.range ops.length).any fun h => RM md ops j h && RM md ops h k
structure ST where
 f : Nat → PV
 rows : Rows
 bM : Nat → Nat → Prop
 wl : Nat → Nat → Prop
def cW (E : Env) : Op → Bool
 | .alloc _ => true
 | .box _ _ => true
 | .makeSlice _ _ _ => true
 | .call { callee := .builtin .append, args := ⟨[_, _]⟩, argTypes := ⟨[_, _]⟩ } => true
 | .call { callee := .value (.func g), args := _, argTypes := _ } => E.writes g
 | _ => false
def rM (E : Env) (ops : List Oper) : Bool := ops.all fun o => !cW E o.op || (o.dst.isSome && o.guard.isNone)
def rk (E : Env) (ops : List Oper) (i : Nat) : Nat := ((ops.take i).filter fun o => cW E o.op).length
theorem OK {E : Env} {ops : List Oper} {i : Nat} {o : Oper} (h : ops[i]? = some o) : rk E ops (i + 1) = rk E ops i + if cW E o.op = true then 1 else 0 := by
 unfold rk
 rw [List.take_add_one, h]
 simp only [Option.toList_some, List.filter_append, List.length_append]
 congr 1
 cases hn : cW E o.op <;> simp [hn]
theorem abL {E : Env} {ops : List Oper} {i j : Nat} (h : i ≤ j) : rk E ops i ≤ rk E ops j := by
 unfold rk
 have : (ops.take i).Sublist (ops.take j) := by
  have := List.take_sublist i (ops.take j)
  rwa [List.take_take, Nat.min_eq_left h] at this
 exact (this.filter _).length_le
theorem VK {E : Env} {ops : List Oper} {i j : Nat} {o : Oper} (h : ops[i]? = some o) (hn : cW E o.op = true) (hij : i < j) : rk E ops i < rk E ops j := by
 have h1 := OK (E := E) h
 rw [if_pos hn] at h1
 have := abL (E := E) (ops := ops) (show i + 1 ≤ j from hij)
 omega
theorem agD {E : Env} {ops : List Oper} {i j : Nat} {o o' : Oper} (h : ops[i]? = some o) (hn : cW E o.op = true) (h' : ops[j]? = some o') (xF : cW E o'.op = true) (he : rk E ops i = rk E ops j) : i = j := by
 rcases Nat.lt_trichotomy i j with h1 | h1 | h1
 ·have := VK h hn h1; omega
 ·exact h1
 ·have := VK h' xF h1; omega
def oS (t : TI) (rows : Rows) (x y : PV) (c0 d : Nat) (v : PV) (u : Option (Nat × Row)) : Prop :=
 match t with
 | .slice e n b _ => ∃ l, sN rows y l ∧ (∀ e ∈ l, e.length = n) ∧
  match x with
  | .nil => l.length ≤ room ∧ l.length * b ≤ room ∧ v = .own d c0 0 l.length ∧ u = some (d, ⟨c0, e, n, l⟩)
  | .own id ver off len => ∃ r, rows id = some r ∧ r.ver = ver ∧ off = 0 ∧ len = r.els.length ∧ r.e = e ∧ r.size = n ∧ len + l.length ≤ room ∧ (len + l.length) * b ≤ room ∧
    v = .own id c0 0 (len + l.length) ∧ u = some (id, ⟨c0, e, n, r.els ++ l⟩)
  | _ => False
 | _ => False
def aeu (E : Env) (g : FuncId) (args : List PV) (c0 d : Nat) (v : PV) (u : Option (Nat × Row)) : Prop :=
 args.all eV = true ∧ ∃ e n els, jL E.P g args e n els ∧ v = .own d c0 0 els.length ∧ u = some (d, ⟨c0, e, n, els⟩)
def yn (E : Env) (c0 : Nat) (d : Option Tmp) (op : Op) (ρ : Operand → PV) (rows : Rows) (v : PV) (u : Option (Nat × Row)) : Prop :=
 match op with
 | .alloc t => (E.ty t).known = true ∧ v = .ptr (d.getD 0) c0 0 0 ∧ u = some (d.getD 0, ⟨c0, t, (E.ty t).size, [(E.ty t).zero]⟩)
 | .box t x => (E.ty t).known = true ∧ ∃ l, bP (ρ x) = some l ∧ (∀ q ∈ l, gN (fun _ => none) q) ∧ l.length = (E.ty t).size ∧ v = .ptr (d.getD 0) c0 0 0 ∧ u = some (d.getD 0, ⟨c0, t, (E.ty t).size, [l]⟩)
 | .makeSlice t l c =>
  match E.ty t, ρ l, ρ c with
  | .slice e n b z, .int _ x, .int _ y => 0 ≤ x ∧ x ≤ y ∧ y.toNat ≤ room ∧ y.toNat * b ≤ room ∧ v = .own (d.getD 0) c0 0 x.toNat ∧ u = some (d.getD 0, ⟨c0, e, n, List.replicate x.toNat z⟩)
  | _, _, _ => False
 | .call { callee := .builtin .append, args := ⟨[x, y]⟩, argTypes := ⟨[t, t2]⟩ } => (t2 = t ∨ VD (E.ty t2) = true) ∧ oS (E.ty t) rows (ρ x) (ρ y) c0 (d.getD 0) v u
 | .call { callee := .value (.func g), args := az4, argTypes := ts } => if E.writes g = true then aeu E g (az4.toList.map fun x => ρ x) c0 (d.getD 0) v u else ys E (.call { callee := .value (.func g), args := az4, argTypes := ts }) ρ rows v u
 | op => ys E op ρ rows v u
theorem yJ {E : Env} {c0 : Nat} {d : Option Tmp} {op : Op} {ρ : Operand → PV} {rows : Rows} {v : PV} {u : Option (Nat × Row)} (h : cW E op = false) : yn E c0 d op ρ rows v u = ys E op ρ rows v u := by
 unfold yn
 split
 all_goals first
  | rfl
  | (simp [cW] at h; done)
  | (simp only [cW] at h; rw [if_neg (by rw [h]; decide)])
theorem lL {E : Env} {op : Op} {C : Prop} (h : cW E op = true) (h1 : ∀ t, op = .alloc t → C) (h2 : ∀ t x, op = .box t x → C) (h3 : ∀ t l c, op = .makeSlice t l c → C)
  (h4 : ∀ x y t t2, op = .call { callee := .builtin .append, args := ⟨[x, y]⟩, argTypes := ⟨[t, t2]⟩ } → C) (h5 : ∀ g az4 ts, op = .call { callee := .value (.func g), args := az4, argTypes := ts } → E.writes g = true → C) : C := by
 unfold cW at h
 split at h
 ·exact h1 _ rfl
 ·exact h2 _ _ rfl
 ·exact h3 _ _ _ rfl
 ·exact h4 _ _ _ _ rfl
 ·exact h5 _ _ _ rfl h
 ·cases h
theorem abM {rows rows' : Rows} {y : PV} {l : List (List PV)} (h : iV (aZ y) rows rows') (hy : sN rows y l) : sN rows' y l ∧ ∀ id ∈ aZ y, ∃ r, rows id = some r := by
 unfold sN at *
 cases y with
 | own id ver off len =>
  obtain ⟨r, hr, hh⟩ := hy
  exact ⟨⟨r, h id (by simp [aZ]) r hr, hh⟩, by simp [aZ]; exact ⟨r, hr⟩⟩
 | nil => exact ⟨hy, by simp [aZ]⟩
 | sl l => exact ⟨hy, by simp [aZ]⟩
 | iS l => exact ⟨hy, by simp [aZ]⟩
 | _ => exact hy.elim
theorem VL {t : TI} {rows rows' : Rows} {x y v : PV} {c0 d : Nat} {u : Option (Nat × Row)} (h : iV (aZ x ++ aZ y) rows rows') (hy : oS t rows x y c0 d v u) : oS t rows' x y c0 d v u ∧ ∀ id ∈ aZ x ++ aZ y, ∃ r, rows id = some r := by
 unfold oS at *
 cases t with
 | slice e n b z =>
  obtain ⟨l, h1, h2, h3⟩ := hy
  obtain ⟨g1, g2⟩ := abM (fun id gE => h id (by simp only [List.mem_append]; exact .inr gE)) h1
  cases x with
  | nil => exact ⟨⟨l, g1, h2, h3⟩, fun id gE => g2 id (by simpa [aZ] using gE)⟩
  | own id ver off len =>
   obtain ⟨r, hr, hh⟩ := h3
   refine ⟨⟨l, g1, h2, r, h id (by simp [aZ]) r hr, hh⟩, fun iQ gE => ?_⟩
   simp only [aZ, List.mem_append, List.mem_cons, List.not_mem_nil, or_false] at gE
   rcases gE with rfl | gE
   ·exact ⟨r, hr⟩
   ·exact g2 iQ gE
  | _ => exact h3.elim
 | _ => exact hy.elim
theorem OL {E : Env} {c0 : Nat} {d : Option Tmp} {op : Op} {ρ : Operand → PV} {rows rows' : Rows} {v : PV} {u : Option (Nat × Row)} (h : iV (gH op ρ) rows rows') (hy : yn E c0 d op ρ rows v u) :
  yn E c0 d op ρ rows' v u ∧ (∀ id ∈ gH op ρ, ∃ r, rows id = some r) ∧ ∀ id r, u = some (id, r) → (cW E op = true ∧ id = d.getD 0) ∨ id ∈ gH op ρ := by
 cases hn : cW E op with
 | false =>
  rw [yJ hn] at hy ⊢
  obtain ⟨h1, h2, h3⟩ := aet h hy
  exact ⟨h1, h2, fun id r hu => .inr (h3 id r hu)⟩
 | true =>
  refine lL hn ?_ ?_ ?_ ?_ ?_
  ·rintro t rfl
   refine ⟨hy, by simp [gH], fun id r hu => .inl ⟨by first | trivial | rfl, ?_⟩⟩
   obtain ⟨_, _, rfl⟩ := hy
   simp at hu; exact hu.1.symm
  ·rintro t x rfl
   refine ⟨hy, by simp [gH], fun id r hu => .inl ⟨by first | trivial | rfl, ?_⟩⟩
   obtain ⟨_, _, _, _, _, _, rfl⟩ := hy
   simp at hu; exact hu.1.symm
  ·rintro t l c rfl
   refine ⟨hy, by simp [gH], fun id r hu => .inl ⟨by first | trivial | rfl, ?_⟩⟩
   simp only [yn] at hy
   split at hy
   ·obtain ⟨_, _, _, _, _, rfl⟩ := hy
    simp at hu; exact hu.1.symm
   ·exact hy.elim
  ·rintro x y t t2 rfl
   simp only [yn, gH] at hy h ⊢
   obtain ⟨h2, h3⟩ := hy
   obtain ⟨g1, g2⟩ := VL h h3
   refine ⟨⟨h2, g1⟩, g2, fun id r hu => ?_⟩
   unfold oS at h3
   split at h3
   ·obtain ⟨l, _, _, h3⟩ := h3
    split at h3
    ·obtain ⟨_, _, _, rfl⟩ := h3
     simp at hu; exact .inl ⟨by first | trivial | rfl, hu.1.symm⟩
    ·rename_i hx
     obtain ⟨_, _, _, _, _, _, _, _, _, _, rfl⟩ := h3
     simp at hu
     rw [hx]
     exact .inr (by simp [aZ, hu.1])
    ·exact h3.elim
   ·exact h3.elim
  ·rintro g az4 ts rfl hw
   simp only [yn] at hy ⊢
   rw [if_pos hw] at hy
   rw [if_pos hw]
   refine ⟨hy, by simp [gH], fun id r hu => .inl ⟨by first | trivial | exact hw, ?_⟩⟩
   obtain ⟨_, _, _, _, _, _, rfl⟩ := hy
   simp at hu; exact hu.1.symm
open Classical in
noncomputable def dN (md : Region.Mode) (ops : List Oper) (j : Nat) (wl : Nat → Nat → Prop) (rows : Rows) : Rows := fun id => if ∃ k, wl k id ∧ nB md ops j k = false then none else rows id
theorem jM {md : Region.Mode} {ops : List Oper} {j id : Nat} {wl : Nat → Nat → Prop} {rows : Rows} {r : Row} : dN md ops j wl rows id = some r ↔ (∀ k, wl k id → nB md ops j k = true) ∧ rows id = some r := by
 unfold dN
 split
 ·rename_i h
  obtain ⟨k, h1, h2⟩ := h
  simp only [reduceCtorEq, false_iff, not_and]
  intro h3
  rw [h3 k h1] at h2; cases h2
 ·rename_i h
  refine ⟨fun h2 => ⟨fun k hk => ?_, h2⟩, fun h2 => h2.2⟩
  cases hd : nB md ops j k with
  | true => rfl
  | false => exact absurd ⟨k, hk, hd⟩ h
def yK (md : Region.Mode) (ops : List Oper) (i id : Nat) (bM : Nat → Nat → Prop) : Prop := ∀ k, bM k id → nB md ops i k = true
def RN (md : Region.Mode) (ops : List Oper) (i : Nat) (u : Option (Nat × Row)) (bM : Nat → Nat → Prop) : Prop :=
 match u with
 | none => True
 | some (id, _) => yK md ops i id bM
def gOK (ops : Array Oper) (o : Oper) (f : Nat → PV) (b : Bool) : Prop :=
 match o.guard with
 | none => b = true
 | some (j, want) => ∃ d, (ops[j]?).bind (·.dst) = some d ∧ ((f d = .bool want ∧ b = true) ∨ ((f d = .bool (!want) ∨ f d = .eN []) ∧ b = false))
def YG (E : Env) (md : Region.Mode) (ops : Array Oper) (c0 : Nat) (i : Nat) (o : Oper) (b : Bool) (v : PV) (u : Option (Nat × Row)) (st : ST) : Prop :=
 gOK ops o st.f b ∧ if b = true then yn E (c0 + rk E ops.toList i) o.dst o.op (aQ st.f) (dN md ops.toList i st.wl st.rows) v u else v = .eN [] ∧ u = none
def wlU (i : Nat) (u : Option (Nat × Row)) (wl : Nat → Nat → Prop) : Nat → Nat → Prop :=
 match u with
 | none => wl
 | some (id, _) => fun k iQ => (k = i ∧ iQ = id) ∨ wl k iQ
def app (i : Nat) (o : Oper) (b : Bool) (v : PV) (u : Option (Nat × Row)) (st : ST) : ST :=
 { f := put st.f o.dst v, rows := eX st.rows u, bM := fun k id => (b = true ∧ k = i ∧ id ∈ gH o.op (aQ st.f)) ∨ st.bM k id, wl := wlU i u st.wl }
def gI (E : Env) (op : Op) (clk : Nat) : Nat :=
 match op with
 | .alloc _ => clk + 1
 | .box _ _ => clk + 1
 | .makeSlice _ _ _ => clk + 1
 | .call { callee := .builtin .append, args := ⟨[_, _]⟩, argTypes := ⟨[_, _]⟩ } => clk + 1
 | .call { callee := .value (.func g), args := _, argTypes := _ } => if E.writes g = true then clk + 1 else clk
 | _ => clk
theorem yL {E : Env} {op : Op} {clk : Nat} (h : cW E op = false) : gI E op clk = clk := by
 unfold gI
 split
 all_goals first
  | rfl
  | (simp [cW] at h; done)
  | (simp only [cW] at h; rw [if_neg (by rw [h]; decide)])
theorem VM {E : Env} {op : Op} {clk : Nat} (h : cW E op = true) : gI E op clk = clk + 1 := by
 refine lL h ?_ ?_ ?_ ?_ ?_
 ·rintro t rfl; rfl
 ·rintro t x rfl; rfl
 ·rintro t l c rfl; rfl
 ·rintro x y t t2 rfl; rfl
 ·rintro g az4 ts rfl hw; simp only [gI]; rw [if_pos hw]
theorem abO {E : Env} {ops : List Oper} {i c0 : Nat} {o : Oper} (h : ops[i]? = some o) : gI E o.op (c0 + rk E ops i) = c0 + rk E ops (i + 1) := by
 rw [OK h]
 cases hn : cW E o.op with
 | false => rw [yL hn]; simp
 | true => rw [VM hn]; simp; omega
def VN (E : Env) (md : Region.Mode) (ops : Array Oper) (c0 : Nat) (i : Nat) (K : ST → Prop) (st : ST) : Prop :=
 match ops[i]? with
 | none => K st
 | some o => ∃ b v u, YG E md ops c0 i o b v u st ∧ RN md ops.toList i u st.bM ∧ K (app i o b v u st)
section
variable {E : Env} {ops : Array Oper} {md : Region.Mode}
theorem VO {c0 i : Nat} {K K' : ST → Prop} {st : ST} (h : ∀ st, K st → K' st) (hh : VN E md ops c0 i K st) : VN E md ops c0 i K' st := by
 unfold VN at *
 split
 ·exact h _ (by simpa [*] using hh)
 ·rename_i o ho
  simp only [ho] at hh
  obtain ⟨b, v, u, h1, h2, h3⟩ := hh
  exact ⟨b, v, u, h1, h2, h _ h3⟩
theorem OM {f : Nat → PV} {d : Option Tmp} {v : PV} {x : Operand} (h : ∀ t, d = some t → x ≠ .tmp t) : aQ (put f d v) x = aQ f x := by
 cases d with
 | none => rfl
 | some t =>
  cases x with
  | tmp s =>
   have : s ≠ t := fun e => h t rfl (by rw [e])
   simp [aQ, put, this]
  | _ => rfl
theorem VP {op : Op} {ρ ρ' : Operand → PV} {rows : Rows} {v : PV} {u : Option (Nat × Row)} (h : ∀ x ∈ op.operands, ρ x = ρ' x) : ys E op ρ rows v u ↔ ys E op ρ' rows v u := by
 have parts : ∀ ps : Array (Nat × Operand), (∀ x ∈ (ps.toList.map (·.2)).toArray, ρ x = ρ' x) → (ps.toList.map fun x => (x.1, ρ x.2)) = ps.toList.map fun x => (x.1, ρ' x.2) := fun ps hp =>
  List.map_congr_left fun p hm => by rw [hp p.2 (by simp; exact ⟨p.1, by simpa using hm⟩)]
 have args : ∀ (c : Call), (∀ x ∈ c.operands, ρ x = ρ' x) → ∀ x ∈ c.args.toList, ρ x = ρ' x := fun c hc x hx => hc x (by simp [Call.operands]; exact .inr (by simpa using hx))
 unfold ys
 split
 ·rename_i t p x
  rw [h p (by simp [Op.operands]), h x (by simp [Op.operands])]
 ·rename_i t len ps
  rw [parts ps (by simpa [Op.operands] using h)]
 ·rename_i f az4 ts
  have ha := args _ (by simpa [Op.operands] using h)
  simp only at ha
  rw [h f (by simp [Op.operands, Call.operands]), List.map_congr_left (g := fun x => pz rows (ρ' x)) fun x hx => by rw [ha x hx]]
  have : (az4.toList.flatMap fun x => dC (ρ x)) = az4.toList.flatMap fun x => dC (ρ' x) := by
   rw [List.flatMap_def, List.flatMap_def]
   congr 1
   exact List.map_congr_left fun x hx => by rw [ha x hx]
  rw [this]
 ·suffices hs : yv E op ρ rows v ↔ yv E op ρ' rows v by rw [hs]
  unfold yv
  split
  case h_12 =>
   rename_i t x lo hi mx _ _ _
   have o1 : ∀ y : Option Operand, (∀ z, y = some z → ρ z = ρ' z) → y.map ρ = y.map ρ' := by
    intro y hy; cases y with
    | none => rfl
    | some z => simp [hy z rfl]
   rw [h x (by simp [Op.operands]), o1 lo fun z hz => h z (by subst hz; simp [Op.operands]), o1 hi fun z hz => h z (by subst hz; simp [Op.operands]), o1 mx fun z hz => h z (by subst hz; simp [Op.operands])]
  case h_13 => rename_i t ps _ _ _; rw [parts ps (by simpa [Op.operands] using h)]
  case h_15 =>
   rename_i f b8 _ _ _
   rw [List.map_congr_left (l := b8.toList) (f := fun x => ρ x) (g := fun x => ρ' x) fun x hx => h x (by simp [Op.operands]; simpa using hx)]
  all_goals first
   | rfl
   | (simp only [Op.operands, Call.operands] at h; simp [h])
theorem yM {op : Op} {ρ ρ' : Operand → PV} (h : ∀ x ∈ op.operands, ρ x = ρ' x) : gH op ρ = gH op ρ' := by
 unfold gH
 split
 all_goals first
  | rfl
  | (simp only [Op.operands, Call.operands] at h; simp [h])
theorem GV {c0 : Nat} {d : Option Tmp} {op : Op} {ρ ρ' : Operand → PV} {rows : Rows} {v : PV} {u : Option (Nat × Row)} (h : ∀ x ∈ op.operands, ρ x = ρ' x) : yn E c0 d op ρ rows v u ↔ yn E c0 d op ρ' rows v u := by
 cases hn : cW E op with
 | false => rw [yJ hn, yJ hn]; exact VP h
 | true =>
  refine lL hn ?_ ?_ ?_ ?_ ?_
  ·rintro t rfl; exact Iff.rfl
  ·rintro t x rfl
   simp only [yn]
   rw [h x (by simp [Op.operands])]
  ·rintro t l c rfl
   simp only [yn]
   rw [h l (by simp [Op.operands]), h c (by simp [Op.operands])]
  ·rintro x y t t2 rfl
   simp only [yn]
   rw [h x (by simp [Op.operands, Call.operands]), h y (by simp [Op.operands, Call.operands])]
  ·rintro g az4 ts rfl hw
   simp only [yn]
   rw [if_pos hw, if_pos hw, List.map_congr_left (l := az4.toList) (f := fun x => ρ x) (g := fun x => ρ' x) fun x hx => h x (by simp [Op.operands, Call.operands]; exact .inr (by simpa using hx))]
theorem GW {o : Oper} {d : Tmp} {x : Operand} (h : d ∉ o.looksAt ops) (hx : x ∈ o.op.operands) : x ≠ .tmp d := by
 rintro rfl
 exact h (List.mem_append_left _ (List.mem_filterMap.2 ⟨.tmp d, by simpa using hx, rfl⟩))
theorem LB {c : Cx} : aI c (.eN []) undef := by
 show cL c.S c.w (.eN []) undef
 simp only [cL]
 exact ⟨[], rfl, rfl⟩
theorem fZ {c : Cx} {tmps : Array Value} {j : Nat} {d : Tmp} {t : Bool} (h1 : (ops[j]?).bind (·.dst) = some d) (h : aI c (.bool t) (tmps.getD d undef)) : yielded ops tmps j = some t := by
 rw [cZ] at h
 unfold yielded
 rw [h1]
 simp only [Option.bind_some]
 cases hx : tmps[d]? with
 | none => simp [hx] at h; cases h
 | some y =>
  have hy : y = .bool t := by simpa [hx] using h
  rw [hy]
theorem rN {c : Cx} {tmps : Array Value} {j : Nat} {d : Tmp} (h1 : (ops[j]?).bind (·.dst) = some d) (h : aI c (.eN []) (tmps.getD d undef)) : yielded ops tmps j = none := by
 have h2 : tmps.getD d undef = .tuple #[] := by
  have h3 : cL c.S c.w (.eN []) (tmps.getD d undef) := h
  simp only [cL] at h3
  obtain ⟨vs, h4, h5⟩ := h3
  simp only [bJ] at h5
  rw [h4, h5]
 unfold yielded
 rw [h1]
 simp only [Option.bind_some]
 cases hx : tmps[d]? with
 | none => rfl
 | some y =>
  have hy : y = .tuple #[] := by simpa [hx] using h2
  rw [hy]
theorem ON {o : Oper} {f : Nat → PV} {dd : Option Tmp} {v : PV} {b : Bool} (h : ∀ d, dd = some d → d ∉ o.looksAt ops) : gOK ops o (put f dd v) b ↔ gOK ops o f b := by
 unfold gOK
 cases hg : o.guard with
 | none => rfl
 | some g =>
  obtain ⟨j, want⟩ := g
  simp only
  have key : ∀ d, (ops[j]?).bind (·.dst) = some d → put f dd v d = f d := by
   intro d h1
   cases dd with
   | none => rfl
   | some e =>
    have sH : d ≠ e := by
     rintro rfl
     exact h d rfl (List.mem_append_right _ (by simp [hg, h1]))
    simp [put, sH]
  constructor
  ·rintro ⟨d, h1, h2⟩
   rw [key d h1] at h2
   exact ⟨d, h1, h2⟩
  ·rintro ⟨d, h1, h2⟩
   rw [← key d h1] at h2
   exact ⟨d, h1, h2⟩
theorem put_comm {f : Nat → PV} {x y : Option Tmp} {v u : PV} (h : ∀ d, x = some d → y ≠ some d) : put (put f x v) y u = put (put f y u) x v := by
 cases x with
 | none => rfl
 | some d =>
  cases y with
  | none => rfl
  | some e =>
   have sH : d ≠ e := fun he => h d rfl (by rw [he])
   funext j
   simp only [put]
   split <;> split <;> simp_all
theorem yN {rows : Rows} {u : Option (Nat × Row)} {j : Nat} (h : ∀ r, u ≠ some (j, r)) : eX rows u j = rows j := by
 cases u with
 | none => rfl
 | some x =>
  obtain ⟨i, r⟩ := x
  simp only [eX, dE]
  rw [if_neg]
  rintro rfl
  exact h r rfl
theorem nC {i : Nat} {u : Option (Nat × Row)} {wl : Nat → Nat → Prop} {k id : Nat} : wlU i u wl k id ↔ (k = i ∧ ∃ r, u = some (id, r)) ∨ wl k id := by
 cases u with
 | none => simp [wlU]
 | some x =>
  obtain ⟨iQ, r⟩ := x
  simp only [wlU, Option.some.injEq, Prod.mk.injEq]
  constructor
  ·rintro (⟨h1, h2⟩ | h)
   ·exact .inl ⟨h1, r, h2.symm, rfl⟩
   ·exact .inr h
  ·rintro (⟨h1, r', h2, _⟩ | h)
   ·exact .inl ⟨h1, h2.symm⟩
   ·exact .inr h
theorem D1 {i : Nat} {u : Option (Nat × Row)} {bM : Nat → Nat → Prop} : RN md ops.toList i u bM ↔ ∀ id r, u = some (id, r) → ∀ k, bM k id → nB md ops.toList i k = true := by
 cases u with
 | none => simp [RN]
 | some x =>
  obtain ⟨iQ, r⟩ := x
  simp only [RN, yK, Option.some.injEq, Prod.mk.injEq]
  constructor
  ·rintro h _ _ ⟨rfl, _⟩; exact h
  ·intro h; exact h _ _ ⟨rfl, rfl⟩
theorem abP {c0 i j : Nat} {oi oj : Oper} {bi : Bool} {vi : PV} {ui : Option (Nat × Row)} (hj : ops[j]? = some oj) (OA : oi.apart ops oj = true) (hds : cW E oi.op = true → oi.dst.isSome = true) (arp : cW E oj.op = true → oj.dst.isSome = true) (hdj : nB md ops.toList j i = false) {K : ST → Prop} {st : ST}
  (hy : YG E md ops c0 i oi bi vi ui st) (ho : RN md ops.toList i ui st.bM) (h : VN E md ops c0 j K (app i oi bi vi ui st)) :
  VN E md ops c0 j (fun OO => YG E md ops c0 i oi bi vi ui OO ∧ RN md ops.toList i ui OO.bM ∧ K (app i oi bi vi ui OO)) st := by
 obtain ⟨h1, h2, h3⟩ := Oper.apart_spec OA
 unfold VN at h ⊢
 simp only [hj] at h ⊢
 obtain ⟨bj, vj, uj, ⟨hgj, hyj⟩, hoj, hK⟩ := h
 obtain ⟨hgi, RO⟩ := hy
 rw [D1] at hoj ho
 have ej : ∀ x ∈ oj.op.operands, aQ (put st.f oi.dst vi) x = aQ st.f x := fun x hx => OM fun t ht => GW (h1 t ht) hx
 have ei : ∀ x ∈ oi.op.operands, aQ (put st.f oj.dst vj) x = aQ st.f x := fun x hx => OM fun t ht => GW (h3 t ht) hx
 have arq : gOK ops oj st.f bj := (ON h1).1 hgj
 have hnw : ∀ id r, dN md ops.toList j (app i oi bi vi ui st).wl (app i oi bi vi ui st).rows id = some r → ∀ r', ui ≠ some (id, r') := by
  intro id r hr r' hu
  obtain ⟨hw, _⟩ := jM.1 hr
  have := hw i (nC.2 (.inl ⟨rfl, r', hu⟩))
  rw [hdj] at this; cases this
 have hle : ∀ ids, iV ids (dN md ops.toList j (app i oi bi vi ui st).wl (app i oi bi vi ui st).rows) (dN md ops.toList j st.wl st.rows) := by
  intro ids id _ r hr
  have hn := hnw id r hr
  obtain ⟨hw, jG⟩ := jM.1 hr
  simp only [app] at jG hw
  rw [yN hn] at jG
  exact jM.2 ⟨fun k hk => hw k (nC.2 (.inr hk)), jG⟩
 have ars : (if bj = true then yn E (c0 + rk E ops.toList j) oj.dst oj.op (aQ st.f) (dN md ops.toList j st.wl st.rows) vj uj else vj = .eN [] ∧ uj = none) ∧
   (bj = true → ∀ id ∈ gH oj.op (aQ st.f), ∃ r, dN md ops.toList j (app i oi bi vi ui st).wl (app i oi bi vi ui st).rows id = some r) ∧ (∀ id r, uj = some (id, r) → bj = true ∧ ((cW E oj.op = true ∧ id = oj.dst.getD 0) ∨ id ∈ gH oj.op (aQ st.f))) := by
  by_cases hb : bj = true
  ·rw [if_pos hb] at hyj ⊢
   have abQ := (GV ej).1 hyj
   obtain ⟨g1, g2, g3⟩ := OL (hle _) abQ
   exact ⟨g1, fun _ => g2, fun id r hu => ⟨hb, g3 id r hu⟩⟩
  ·rw [if_neg hb] at hyj ⊢
   exact ⟨hyj, fun h => absurd h hb, fun id r hu => by rw [hyj.2] at hu; cases hu⟩
 obtain ⟨art, abQ, aru⟩ := ars
 have arv : RN md ops.toList j uj st.bM := D1.2 fun id r hu k hk => hoj id r hu k (.inr hk)
 have hfi : ∀ id r, uj = some (id, r) → ¬ (bi = true ∧ id ∈ gH oi.op (aQ st.f)) := by
  intro id r hu hh
  have := hoj id r hu i (.inl ⟨hh.1, rfl, hh.2⟩)
  rw [hdj] at this; cases this
 have hui : ∀ id r, ui = some (id, r) → bi = true ∧ ((cW E oi.op = true ∧ id = oi.dst.getD 0) ∨ id ∈ gH oi.op (aQ st.f)) := by
  intro id r hu
  by_cases hb : bi = true
  ·rw [if_pos hb] at RO
   exact ⟨hb, (OL (rows' := dN md ops.toList i st.wl st.rows) (fun id _ r hr => hr) RO).2.2 id r hu⟩
  ·rw [if_neg hb] at RO
   rw [RO.2] at hu; cases hu
 have sH : ∀ id r r', ui = some (id, r) → uj = some (id, r') → False := by
  intro id r r' hu1 hu2
  obtain ⟨hb, hh⟩ := aru id r' hu2
  rcases hh with hh | hh
  ·obtain ⟨GU, hh1⟩ := hui id r hu1
   rcases hh1 with hh1 | hh1
   ·obtain ⟨d, hd⟩ := Option.isSome_iff_exists.1 (hds hh1.1)
    have e1 : id = d := by rw [hh1.2, hd]; rfl
    cases agH : oj.dst with
    | none => exact absurd agH (fun he => by have := arp hh.1; rw [he] at this; cases this)
    | some d' =>
     have e2 : id = d' := by rw [hh.2, agH]; rfl
     exact h2 d hd (by rw [agH, ← e2, e1])
   ·exact hfi id r' hu2 ⟨GU, hh1⟩
  ·obtain ⟨r'', arw⟩ := abQ hb id hh
   exact hnw id r'' arw r hu1
 have arx : bi = true → iV (gH oi.op (aQ st.f)) (dN md ops.toList i st.wl st.rows) (dN md ops.toList i (app j oj bj vj uj st).wl (app j oj bj vj uj st).rows) := by
  intro hb id gE r hr
  obtain ⟨hw, jG⟩ := jM.1 hr
  have hn : ∀ r', uj ≠ some (id, r') := fun r' hu => hfi id r' hu ⟨hb, gE⟩
  refine jM.2 ⟨fun k hk => ?_, ?_⟩
  ·rcases nC.1 hk with ⟨_, r', hu⟩ | hk
   ·exact absurd hu (hn r')
   ·exact hw k hk
  ·simp only [app]; rw [yN hn]; exact jG
 refine ⟨bj, vj, uj, ⟨arq, art⟩, arv, ⟨(ON h3).2 hgi, ?_⟩, ?_, ?_⟩
 ·by_cases hb : bi = true
  ·rw [if_pos hb] at RO ⊢
   refine (GV ei).2 ?_
   exact (OL (arx hb) RO).1
  ·rw [if_neg hb] at RO ⊢; exact RO
 ·-- i's own row has not aw1 apr
  rw [D1]
  rintro id r hu k (⟨hb, rfl, hh⟩ | hh)
  ·obtain ⟨r', jG⟩ := abQ hb id hh
   exact absurd hu (hnw id r' jG r)
  ·exact ho id r hu k hh
 ·have : app i oi bi vi ui (app j oj bj vj uj st) = app j oj bj vj uj (app i oi bi vi ui st) := by
   simp only [app, ST.mk.injEq]
   refine ⟨put_comm fun d hd => fun VQ => (h2 d) (by first | exact hd | exact VQ) (by first | exact VQ | exact hd), ?_, ?_, ?_⟩
   ·cases ui with
    | none => rfl
    | some x =>
     cases uj with
     | none => rfl
     | some y =>
      obtain ⟨id, r⟩ := x
      obtain ⟨iQ, r'⟩ := y
      have : id ≠ iQ := fun e => sH id r r' rfl (by rw [e])
      funext k
      simp only [eX, dE]
      split <;> split <;> simp_all
   ·funext k id
    have e1 : gH oi.op (aQ (put st.f oj.dst vj)) = gH oi.op (aQ st.f) := yM ei
    have e2 : gH oj.op (aQ (put st.f oi.dst vi)) = gH oj.op (aQ st.f) := yM ej
    rw [e1, e2]
    apply propext
    constructor
    ·rintro (h | h | h)
     ·exact .inr (.inl h)
     ·exact .inl h
     ·exact .inr (.inr h)
    ·rintro (h | h | h)
     ·exact .inr (.inl h)
     ·exact .inl h
     ·exact .inr (.inr h)
   ·funext k id
    apply propext
    rw [nC, nC, nC, nC]
    constructor
    ·rintro (h | h | h)
     ·exact .inr (.inl h)
     ·exact .inl h
     ·exact .inr (.inr h)
    ·rintro (h | h | h)
     ·exact .inr (.inl h)
     ·exact .inl h
     ·exact .inr (.inr h)
  rw [this]; exact hK
theorem GX {j k : Nat} : RM md ops.toList j k = true ↔ ∃ oj, ops[j]? = some oj ∧ ∃ e ∈ oj.after, Region.binds md e = true ∧ e.on = k := by
 unfold RM
 cases h : ops[j]? with
 | none => simp [show ops.toList[j]? = none by simpa using h]
 | some oj =>
  rw [show ops.toList[j]? = some oj by simpa using h]
  simp only [List.any_eq_true, Bool.and_eq_true, beq_iff_eq, Option.some.injEq]
  constructor
  ·rintro ⟨e, he, h1, h2⟩; exact ⟨oj, rfl, e, by simpa using he, h1, h2⟩
  ·rintro ⟨_, rfl, e, he, h1, h2⟩; exact ⟨e, by simpa using he, h1, h2⟩
theorem abR {n j i : Nat} {oj : Oper} {aY : Array Bool} (hj : ops[j]? = some oj) (inv : HeadInv md ops n aY) (hr : ∀ e ∈ oj.after, Region.binds md e = true → aY.getD e.on false = true) (KG : aY.getD i false = false) : nB md ops.toList j i = false := by
 have one : ∀ k, RM md ops.toList j k = true → aY.getD k false = true := fun k hk => by
  obtain ⟨o, ho, e, he, h1, rfl⟩ := GX.1 hk
  rw [hj] at ho; cases ho
  exact hr e he h1
 cases hd : nB md ops.toList j i with
 | false => rfl
 | true =>
  exfalso
  unfold nB at hd
  rcases Bool.or_eq_true_iff.1 hd with h | h
  ·rw [one i h] at KG; cases KG
  ·obtain ⟨k, _, hk⟩ := List.any_eq_true.1 h
   obtain ⟨h1, h2⟩ := Bool.and_eq_true_iff.1 hk
   obtain ⟨o, ho, e, he, h3, rfl⟩ := GX.1 h2
   rw [inv.closed k o ho (one k h1) e he h3] at KG; cases KG
end
section
variable {E : Env} {ops : Array Oper} {md : Region.Mode}
def GY (E : Env) (md : Region.Mode) (ops : Array Oper) (c0 n : Nat) (L : Array Bool → ST → Prop) : Nat → Array Bool → ST → Prop
 | 0, aY, st => L aY st
 | f + 1, aY, st => Region.ready md ops aY ≠ [] ∧ ∀ i ∈ Region.ready md ops aY, i < n ∧ VN E md ops c0 i (GY E md ops c0 n L f (aY.setIfInBounds i true)) st
theorem GZ {c0 n i : Nat} {oi : Oper} {b : Bool} {v : PV} {u : Option (Nat × Row)} {L : Array Bool → ST → Prop} (hi : ops[i]? = some oi) (m8 : ∀ i oi, i < n → ops[i]? = some oi → cW E oi.op = true → oi.dst.isSome = true)
  (yO : ∀ aY, HeadInv md ops n aY → ∀ i, i < n → aY.getD i true = false → ∀ t, n ≤ t → t ∉ Region.ready md ops aY) (hin : i < n)
  (alP : ∀ aY st, L aY st → ∀ j ∈ Region.ready md ops aY, n ≤ j) :
  ∀ (f : Nat) (aY : Array Bool) (st : ST), HeadInv md ops n aY →
   (∀ j oj, ops[j]? = some oj → j ≠ i → aY.getD j true = false → (∀ e ∈ oj.after, Region.binds md e = true → e.on ≠ i) → oi.apart ops oj = true) →
   i ∈ Region.ready md ops aY → YG E md ops c0 i oi b v u st → RN md ops.toList i u st.bM →
   GY E md ops c0 n L f (aY.setIfInBounds i true) (app i oi b v u st) → GY E md ops c0 n L (f + 1) aY st := by
 intro f
 induction f with
 | zero =>
  intro aY st inv _ hr hy ho H
  have KG := (mem_ready.1 hr).1
  refine ⟨fun h => (by rw [h] at hr; cases hr), fun j hj => ?_⟩
  have hjn : j < n := by
   rcases Nat.lt_or_ge j n with h | h
   ·exact h
   ·exact absurd hj (yO aY inv i hin KG j h)
  refine ⟨hjn, ?_⟩
  by_cases hji : j = i
  ·subst hji; unfold VN; simp only [hi]; exact ⟨b, v, u, hy, ho, H⟩
  ·have := alP _ _ H j (ready_mono hj hji)
   omega
 | succ f ih =>
  intro aY st inv aex hr hy ho H
  have KG := (mem_ready.1 hr).1
  refine ⟨fun h => (by rw [h] at hr; cases hr), fun j hj => ?_⟩
  have hjn : j < n := by
   rcases Nat.lt_or_ge j n with h | h
   ·exact h
   ·exact absurd hj (yO aY inv i hin KG j h)
  refine ⟨hjn, ?_⟩
  by_cases hji : j = i
  ·subst hji; unfold VN; simp only [hi]; exact ⟨b, v, u, hy, ho, H⟩
  ·have h1 := (H.2 j (ready_mono hj hji)).2
   obtain ⟨alR, oj, hoj, rO⟩ := mem_ready.1 hj
   have agI : ∀ e ∈ oj.after, Region.binds md e = true → e.on ≠ i := fun e he hb heq => by
    have h1 := rO e he hb
    rw [heq, getD_both KG] at h1
    cases h1
   have h2 := abP hoj (aex j oj hoj hji alR agI) (m8 i oi hin hi) (m8 j oj hjn hoj) (abR hoj inv rO (getD_both KG)) hy ho h1
   have agJ : ∀ k ok, ops[k]? = some ok → k ≠ i → (aY.setIfInBounds j true).getD k true = false →
     (∀ e ∈ ok.after, Region.binds md e = true → e.on ≠ i) → oi.apart ops ok = true := fun k ok hk VR alS VS => by
    refine aex k ok hk VR ?_ VS
    by_cases hjk : j = k
    ·subst hjk; exact alR
    ·rw [getD_set_ne true hjk] at alS; exact alS
   refine VO (fun OO h3 => ih (aY.setIfInBounds j true) OO (inv.set hj hjn) agJ (ready_mono hr (Ne.symm hji)) h3.1 h3.2.1 ?_) h2
   rw [Array.setIfInBounds_comm _ _ hji]
   exact h3.2.2
def agL (E : Env) (md : Region.Mode) (ops : Array Oper) (c0 : Nat) (Lq : ST → Prop) : Nat → List Oper → ST → Prop
 | _, [], st => Lq st
 | k, o :: os, st => ∃ b v u, YG E md ops c0 k o b v u st ∧ RN md ops.toList k u st.bM ∧ agL E md ops c0 Lq (k + 1) os (app k o b v u st)
theorem pT {c0 n g : Nat} {Lq : ST → Prop} (m8 : ∀ i oi, i < n → ops[i]? = some oi → cW E oi.op = true → oi.dst.isSome = true) (yO : ∀ aY, HeadInv md ops n aY → ∀ i, i < n → aY.getD i true = false → ∀ t, n ≤ t → t ∉ Region.ready md ops aY) :
  ∀ (l : List Oper) (k : Nat) (aY : Array Bool) (st : ST), (∀ j, j < l.length → l[j]? = ops[k + j]?) → k + l.length = n → HeadInv md ops n aY →
  Region.lexHead md ops g l.length k aY = true → agL E md ops c0 Lq k l st →
  GY E md ops c0 n (fun OP OO => Region.seqB md ops g n OP = true ∧ Lq OO) l.length aY st
 | [], k, aY, st, _, hk, _, hB, h => by
  have : k = n := by simpa using hk
  subst this
  exact ⟨by simpa [Region.lexHead] using hB, h⟩
 | o :: l, k, aY, st, hl, hk, inv, hB, h => by
  have h0 : ops[k]? = some o := by simpa using (hl 0 (by simp)).symm
  simp only [List.length_cons, Region.lexHead, Bool.and_eq_true] at hB
  obtain ⟨⟨hr, hf⟩, hB'⟩ := hB
  have hkn : k < n := by simp only [List.length_cons] at hk; omega
  have jG : k ∈ Region.ready md ops aY := by simpa using hr
  obtain ⟨b, v, u, hy, ho, hK⟩ := h
  exact GZ h0 m8 yO hkn (fun OP OO hL => seqB_ready hL.1) l.length aY st inv (Region.free_spec h0 hf) jG hy ho
   (pT m8 yO l (k + 1) _ _ (fun j hj => by have := hl (j + 1) (by simp; omega); simpa [Nat.add_assoc, Nat.add_comm 1 j] using this) (by simp only [List.length_cons] at hk; omega) (inv.set jG hkn) hB' hK)
variable {w0 : World} {S0 : dB} {m : Nat} {G : Gs}
theorem LC {o : Oper} {a : Act} {w : World} {f : Nat → PV} {rows : Rows} {U : Nat → Prop} {c0 : Nat} {v : PV} {u : Option (Nat × Row)} (OI : ¬ U c0) {g : FuncId} {az4 : Array Operand} {ts : Array TypeId} (ho : o.op = .call { callee := .value (.func g), args := az4, argTypes := ts })
  (hy : aeu E g (az4.toList.map fun x => aQ f x) c0 (o.dst.getD 0) v u) (hR : m9 w0 S0 m G U f rows a w) (hd : ∀ t, o.dst = some t → t < m)
  {K' : Act → World → Prop} {Q : Exit → Act → World → Prop} (hK : ∀ a' w', m9 w0 S0 m G (fun v => v = c0 ∨ U v) (put f o.dst v) (eX rows u) a' w' → K' a' w') : o.wp E.P a w K' Q := by
 obtain ⟨⟨c, rfl, hr, eT, hI, hf, hG⟩, hn, eK⟩ := hR
 have hρ := kD hf
 have hfu : ¬ c.used c0 := fun hu => OI (eT _ hu)
 obtain ⟨qW, e, n, els, ⟨⟨fn, b, h1, h2, h3⟩, K7⟩, rfl, rfl⟩ := hy
 obtain ⟨dst, op, type, pos, after, guard⟩ := o
 simp only at ho hd hK
 subst ho
 have fI : a7 (aI c) (az4.toList.map fun x => aQ f x) (az4.map a.eval).toList := by
  refine a7.cY (by simp) fun k p u hp hu => ?_
  simp at hp hu
  obtain ⟨x, hx, rfl⟩ := hp
  obtain ⟨y, hy, rfl⟩ := hu
  rw [hx] at hy; cases hy
  exact hρ x
 have eW : bJ c.S c.w (az4.toList.map fun x => aQ f x) (az4.map a.eval).toList := cB.2 (a7.cY fI.length fun k p u hp hu => by
  obtain ⟨u', q1, q2⟩ := fI.get hp
  rw [hu] at q1; cases q1
  exact q2.rep (List.all_eq_true.1 qW p (List.mem_of_getElem? hp)))
 have oR := K7 c.w c.S _ (fun b o hb => hI.lt hb) eW
 simp only [Array.toArray_toList] at oR
 have hfo := hρ (.func g)
 simp only [aQ, aI, aP, cL] at hfo
 obtain ⟨cs, hfv, F9⟩ := hfo
 simp only [bJ] at F9
 subst F9
 unfold Oper.wp
 have iU : (execOp a.eval { dst := dst, op := .call { callee := .value (.func g), args := az4, argTypes := ts }, type := type, pos := pos, after := after, guard := guard }).run E.P c.w = .ok (.enter g (az4.map a.eval)) c.w := by
  simp only [execOp, resolve, hfv, Deferred.ofValue, Sem.run_bind, Sem.run_pure, Result.andThen_ok, invoke]
  simpa using kO h1 h2 h3 (az4.map a.eval) c.w
 rw [iU]
 refine oR.mono ?_
 rintro x w' ⟨v', xs, S', rfl, hb, g1, g2, g3, g4, g5, g6, g7, g8⟩
 obtain ⟨hI2, hA2⟩ := hI.grow hb g1 g2
 obtain ⟨hI3, hA3⟩ := hI2.set (w' := w') (ob := v'.ownBlock) (id := dst.getD 0) (r' := ⟨c0, e, n, els⟩) (v' := v') (xs := xs) (World.grownBy.refl _ _)
  (fun g hg => by
   have hge := (g3.lt g hg).1
   refine ⟨by have := hI.below.size; omega, fun o => g8 g o hg, fun iQ r hr _ wV => ?_⟩
   obtain ⟨⟨ys, q1, _, _⟩, _⟩ := hI.row iQ r hr
   have := (q1.lt g wV).2
   omega) ⟨g3.1, g3.2.imp id fun ⟨g, cap, cur, q1, q2, q3⟩ => ⟨g, cap, cur, q1, Nat.le_trans hI.below.size q2, q3⟩⟩ (g4.mono fun _ _ h => aP.iT h) g5 g6 g7 (fun g hg => .inl hg) hfu
 refine hK _ _ ?_
 have hf2 : ∀ s, aI { c with S := S', w := w' } (f s) (a.tmps.getD s undef) := fun s => aI.rG hA2 _ _ (hf s)
 have hG2 : ∀ p ∈ G, aI { c with S := S', w := w' } p.1 p.2 := fun p hp => aI.rG hA2 _ _ (hG p hp)
 refine mM hf2 hG2 hn eK hA3 hI3 ?_ hd rfl (by simp [eX, hr]) (fun v hv => hv.imp (fun h => h) (eT v))
 rcases g3.2 with ⟨rfl, h8⟩ | ⟨g, jI, cur, rfl, _⟩
 ·have : els.length = 0 := h8
  rw [this]
  exact jY (r := ⟨c0, e, n, els⟩) (A := none) (cap := 0) (by simp [dE]) (by simpa using h8) (Or.inl rfl) (by simp [dE])
 ·exact jY (r := ⟨c0, e, n, els⟩) (by simp [dE]) rfl (Or.inl rfl) (by simp [dE])
theorem VT {o : Oper} {a : Act} {w : World} {f : Nat → PV} {rows : Rows} {U : Nat → Prop} {c0 : Nat} {v : PV} {u : Option (Nat × Row)} (OI : ¬ U c0) (hn : cW E o.op = true) (hy : yn E c0 o.dst o.op (aQ f) rows v u) (hR : m9 w0 S0 m G U f rows a w) (hd : ∀ t, o.dst = some t → t < m)
  {K' : Act → World → Prop} {Q : Exit → Act → World → Prop} (hK : ∀ a' w', m9 w0 S0 m G (fun v => v = c0 ∨ U v) (put f o.dst v) (eX rows u) a' w' → K' a' w') : o.wp E.P a w K' Q := by
 by_cases oR : ∃ g az4 ts, o.op = .call { callee := .value (.func g), args := az4, argTypes := ts } ∧ E.writes g = true
 ·obtain ⟨g, az4, ts, ho, hw⟩ := oR
  rw [ho] at hy
  simp only [yn] at hy
  rw [if_pos hw] at hy
  exact LC OI ho hy hR hd hK
 refine sP (ver := c0) OI (K := fun _ f' rows' => f' = put f o.dst v ∧ rows' = eX rows u) ?_ hR hd (fun i f' rows' a' w' h jZ => by
  obtain ⟨rfl, rfl⟩ := h
  exact hK a' w' (jZ.mono fun v hv => hv.imp (fun h => h.2) fun h => h))
 obtain ⟨dst, op, type, pos, after, guard⟩ := o
 simp only at hn hy oR ⊢
 refine lL hn ?_ ?_ ?_ ?_ ?_
 ·rintro t rfl
  simp only [yn] at hy
  obtain ⟨h2, rfl, rfl⟩ := hy
  exact ⟨h2, rfl, rfl⟩
 ·rintro t x rfl
  simp only [yn] at hy
  obtain ⟨h2, l, h3, h4, h5, rfl, rfl⟩ := hy
  exact ⟨h2, l, h3, fun q hq => D0 (fun id _ r hr => by cases hr) (h4 q hq), h5, rfl, rfl⟩
 ·rintro t l cc rfl
  simp only [yn] at hy
  simp only [mF]
  split at hy
  ·rename_i e n b z k1 x k2 y hE hl hc
   obtain ⟨g1, g2, g3, g4, rfl, rfl⟩ := hy
   try rw [hE, hl, hc]
   exact ⟨g1, g2, g3, g4, rfl, rfl⟩
  ·exact hy.elim
 ·rintro x y t t2 rfl
  simp only [yn] at hy
  obtain ⟨h2, hy⟩ := hy
  simp only [mF]
  refine ⟨h2, ?_⟩
  unfold oS at hy
  unfold mN
  split at hy
  ·rename_i e n b z hE
   obtain ⟨l, g1, g2, g3⟩ := hy
   rw [hE]
   refine ⟨l, g1, g2, ?_⟩
   split at g3
   ·rename_i hx
    obtain ⟨q1, q2, rfl, rfl⟩ := g3
    rw [hx]
    exact ⟨q1, q2, rfl, rfl⟩
   ·rename_i id ver off len hx
    obtain ⟨r, q1, q2, q3, q4, q5, q6, q7, q8, rfl, rfl⟩ := g3
    rw [hx]
    exact ⟨r, q1, q2, q3, q4, q5, q6, q7, q8, rfl, rfl⟩
   ·exact g3.elim
  ·exact hy.elim
 ·rintro g az4 ts rfl hw
  exact absurd ⟨g, az4, ts, rfl, hw⟩ oR
theorem RQ {c0 i : Nat} {st : ST} {K : ST → Prop} {U : Nat → Prop} (OI : ∀ o, ops[i]? = some o → cW E o.op = true → ¬ U (c0 + rk E ops.toList i)) (h : VN E md ops c0 i K st) {a : Act} {w : World} (hR : m9 w0 S0 m G U st.f st.rows a w) (hd : ∀ o, o ∈ ops → ∀ t, o.dst = some t → t < m)
  {K' : Act → World → Prop} {Q : Exit → Act → World → Prop} (hK : ∀ OO a' w', K OO → m9 w0 S0 m G (fun v => (v = c0 + rk E ops.toList i ∧ ∃ o, ops[i]? = some o ∧ cW E o.op = true) ∨ U v) OO.f OO.rows a' w' → K' a' w') : wpOp E.P ops Q i K' a w := by
 unfold VN at h
 unfold wpOp
 split at h
 ·rename_i hi; simp only [hi]; exact hK _ _ _ h (hR.mono fun v hv => .inr hv)
 ·rename_i o hi
  simp only [hi]
  obtain ⟨b, v, u, ⟨hg, hy⟩, ho, hk⟩ := h
  have jZ := hR
  obtain ⟨⟨c, rfl, hr, eT, hI, hf, hG⟩, hn, eK⟩ := hR
  have hdo := hd o (Array.mem_of_getElem? hi)
  have aey : Region.wanted o (yielded ops a.tmps) = b := by
   unfold gOK at hg
   unfold Region.wanted
   cases hgd : o.guard with
   | none => rw [hgd] at hg; simp only at hg ⊢; exact hg.symm
   | some x =>
    obtain ⟨j, want⟩ := x
    rw [hgd] at hg
    simp only at hg ⊢
    obtain ⟨d, h1, h2⟩ := hg
    have hx := hf d
    rcases h2 with ⟨h2, h3⟩ | ⟨h2 | h2, h3⟩
    ·rw [h2] at hx
     rw [fZ h1 hx, h3]
     cases want <;> rfl
    ·rw [h2] at hx
     rw [fZ h1 hx, h3]
     cases want <;> rfl
    ·rw [h2] at hx
     rw [rN h1 hx, h3]
     rfl
  by_cases hb : b = true
  ·subst hb
   rw [if_pos rfl] at hy
   rw [aey, if_pos rfl]
   left
   cases m8 : cW E o.op with
   | true =>
    refine VT (OI o hi m8) m8 (OL (fun id _ r jG => (jM.1 jG).2) hy).1 jZ hdo fun a' w' hR2 => hK _ _ _ hk ?_
    exact hR2.mono fun v hv => hv.imp (fun h => ⟨h, o, by first | exact hi | rfl, m8⟩) fun h => h
   | false =>
    rw [yJ m8] at hy
    have A6 : ys E o.op (aQ st.f) c.rows v u := by
     rw [hr]
     exact (aet (fun id _ r jG => (jM.1 jG).2) hy).1
    refine GS hI hf A6 fun v' c' h1 h2 h3 h4 h5 => hK _ _ _ hk ?_
    refine mM hf hG hn eK h3 h4 h5 hdo rfl ?_ ?_
    ·simp only [app]
     rw [h1, hr]
    ·rw [h2]
     exact fun v hv => .inr (eT v hv)
  ·rw [if_neg hb] at hy
   obtain ⟨rfl, rfl⟩ := hy
   rw [aey, if_neg hb]
   refine hK _ _ _ hk ?_
   have wV : b = false := by simpa using hb
   subst wV
   exact mM hf hG hn eK (rF.refl c) hI LB hdo rfl (by rw [hr]; rfl) (fun v hv => .inr (eT v hv))
def Ul (E : Env) (ops : Array Oper) (c0 n : Nat) (aY : Array Bool) : Nat → Prop := fun v => v < c0 ∨ ∃ k o, k < n ∧ ops[k]? = some o ∧ cW E o.op = true ∧ v = c0 + rk E ops.toList k ∧ aY.getD k false = true
theorem LD {c0 n v : Nat} {aY : Array Bool} (h : Ul E ops c0 n aY v) : v < c0 + rk E ops.toList n := by
 rcases h with h | ⟨k, o, hk, ho, hn, rfl, _⟩
 ·omega
 ·have := VK (ops := ops.toList) (by simpa using ho) hn hk
  omega
theorem jV {c0 n g : Nat} {L : Array Bool → ST → Prop} {Q : Exit → Act → World → Prop} (hd : ∀ o, o ∈ ops → ∀ t, o.dst = some t → t < m)
  (hL : ∀ aY (st : ST) a w, L aY st → m9 w0 S0 m G (Ul E ops c0 n aY) st.f st.rows a w → wpAny E.P md ops Q g aY a w) :
  ∀ (f : Nat) (aY : Array Bool) (st : ST) (a : Act) (w : World), n ≤ aY.size → GY E md ops c0 n L f aY st → m9 w0 S0 m G (Ul E ops c0 n aY) st.f st.rows a w → wpAny E.P md ops Q (f + g) aY a w
 | 0, aY, st, a, w, _, h, hR => by rw [Nat.zero_add]; exact hL _ _ _ _ h hR
 | f + 1, aY, st, a, w, mD, h, hR => by
  rw [show f + 1 + g = (f + g) + 1 by omega]
  refine ⟨fun h0 => absurd h0 h.1, fun i hi => ?_⟩
  have KG := (mem_ready.1 hi).1
  obtain ⟨hin, hq⟩ := h.2 i hi
  refine RQ (fun o ho hn hU => ?_) hq hR hd fun OO a' w' h' jZ => jV hd hL f _ OO a' w' (by simpa using mD) h' (jZ.mono fun v hv => ?_)
  ·rcases hU with hU | ⟨k, o', hk, ho', xF, he, hl⟩
   ·omega
   ·have := agD (ops := ops.toList) (by simpa using ho) hn (by simpa using ho') xF (by omega)
    subst this
    rw [getD_both KG] at hl; cases hl
  ·rcases hv with ⟨rfl, o, ho, hn⟩ | hv
   ·exact .inr ⟨i, o, hin, ho, hn, rfl, by simp [show i < aY.size by omega]⟩
   ·rcases hv with hv | ⟨k, o, hk, ho, hn, he, hl⟩
    ·exact .inl hv
    ·refine .inr ⟨k, o, hk, ho, hn, he, ?_⟩
     by_cases VR : i = k
     ·subst VR; simp [show i < aY.size by omega]
     ·simpa [Array.getElem?_setIfInBounds_ne VR] using hl
end
def aK (E : Env) (ops : List Oper) : List Oper → (PS → Prop) → PS → Prop
 | [], K, σ => K σ
 | o :: os, K, σ =>
  match o.guard with
  | none => dR E o (aK E ops os K) σ
  | some (j, want) =>
   match (ops[j]?).bind (·.dst) with
   | none => False
   | some d => (σ.f d = .bool want ∧ dR E o (aK E ops os K) σ) ∨ ((σ.f d = .bool (!want) ∨ σ.f d = .eN []) ∧ aK E ops os K (σ.put o.dst (.eN [])))
def aN (E : Env) (ops : List Oper) (clk : Nat) : Nat → List Oper → (PS → Prop) → ST → Prop
 | _, [], K, st => K ⟨st.f, st.rows, clk⟩
 | k, o :: os, K, st =>
  match o.guard with
  | none => ∃ v u, yn E clk o.dst o.op (aQ st.f) (dN .any ops k st.wl st.rows) v u ∧ RN .any ops k u st.bM ∧ aN E ops (gI E o.op clk) (k + 1) os K (app k o true v u st)
  | some (j, want) =>
   match (ops[j]?).bind (·.dst) with
   | none => False
   | some d => (st.f d = .bool want ∧ ∃ v u, yn E clk o.dst o.op (aQ st.f) (dN .any ops k st.wl st.rows) v u ∧ RN .any ops k u st.bM ∧ aN E ops (gI E o.op clk) (k + 1) os K (app k o true v u st)) ∨ ((st.f d = .bool (!want) ∨ st.f d = .eN []) ∧ aN E ops clk (k + 1) os K (app k o false (.eN []) none st))
def fJ (E : Env) (tl : Nat) (ops : List Oper) (K : PS → Prop) (σ : PS) : Prop :=
 if tl = 0 then aN E ops σ.clock 0 ops K ⟨σ.f, σ.rows, fun _ _ => False, fun _ _ => False⟩
 else aN E ops σ.clock 0 (ops.take (ops.length - tl)) (aK E ops (ops.drop (ops.length - tl)) K) ⟨σ.f, σ.rows, fun _ _ => False, fun _ _ => False⟩
inductive PX where
 | normal
 | exit (id : Nat)
 | ret
def A9 (K : PS → Prop) (Q : PX → PS → Prop) : PX → PS → Prop
 | .normal, σ => K σ
 | .exit id, σ => Q (.exit id) σ
 | .ret, σ => Q .ret σ
def BA (id : Nat) (Q : PX → PS → Prop) : PX → PS → Prop
 | .normal, σ => Q .normal σ
 | .exit j, σ => if j = id then Q .normal σ else Q (.exit j) σ
 | .ret, σ => Q .ret σ
def oT (E : Env) (n tl : Nat) (ops : Array Oper) (draw : Bool) : Bool :=
 (ops.all fun o => match o.dst with | some d => decide (d < n) | none => true) &&
 (!draw || (rM E (if tl = 0 then ops.toList else ops.toList.take (ops.size - tl)) && (if tl = 0 then Region.noSelect ops && Region.lexHead .any ops 0 ops.size 0 (Array.replicate ops.size false) else decide (tl ≤ ops.size) && Region.lexTailB .any ops (ops.size - tl))))
def eB (E : Env) (n : Nat) (tl : Nat → Nat) : Code → Bool
 | .region id ops draw => oT E n (tl id) ops draw
 | .seq a b => eB E n tl a && eB E n tl b
 | .cond _ t e => eB E n tl t && eB E n tl e
 | .block _ c => eB E n tl c
 | .loop c => eB E n tl c
 | _ => true
section
variable {E : Env} {w0 : World} {S0 : dB} {n : Nat} {G : Gs}
theorem fO {ops : Array Oper} {K : PS → Prop} {Q : Exit → Act → World → Prop} (hK : ∀ σ' a' w', K σ' → Rel w0 S0 n G σ' a' w' → Q .normal a' w') :
  ∀ (l : List Oper) (σ : PS) (a : Act) (w : World), (∀ o ∈ l, ∀ t, o.dst = some t → t < n) → aK E ops.toList l K σ → Rel w0 S0 n G σ a w → wpList E.P ops Q l a w
 | [], σ, a, w, _, h, hR => hK _ _ _ h hR
 | o :: os, σ, a, w, hd, h, hR => by
  have hdo := hd o (by simp)
  have hds : ∀ o ∈ os, ∀ t, o.dst = some t → t < n := fun o ho => hd o (by simp [ho])
  have wanted : ∀ {σ}, dR E o (aK E ops.toList os K) σ → Rel w0 S0 n G σ a w → o.wp E.P a w (wpList E.P ops Q os) Q := fun hp hR =>
   vQ hp hR hdo fun σ' a' w' hk jZ => fO hK os σ' a' w' hds hk jZ
  unfold wpList
  simp only [aK] at h
  split at h
  ·rename_i hg
   rw [if_pos (by simp [Region.wanted, hg])]
   exact .inl (wanted h hR)
  ·rename_i j want hg
   split at h
   ·exact h.elim
   ·rename_i d RS
    have hd3 : (ops[j]?).bind (·.dst) = some d := by simpa using RS
    have skip : yielded ops a.tmps j ≠ some want → aK E ops.toList os K (σ.put o.dst (.eN [])) → (if Region.wanted o (yielded ops a.tmps) = true then o.wp E.P a w (wpList E.P ops Q os) Q ∨ (o.asks E.P a w ∧ LetsOut Q) else wpList E.P ops Q os (a.put o.dst undef) w) := by
     intro hy h2
     rw [if_neg (by simpa [Region.wanted, hg] using hy)]
     refine fO hK os _ _ w hds h2 ?_
     obtain ⟨⟨c, rfl, hr, eT, hI, hf, hG⟩, hn, eK⟩ := hR
     exact lK hf hG hn eK (rF.refl c) hI LB hdo rfl (by simp [PS.put, hr]) eT
    obtain ⟨c, _, _, _, _, hf, _⟩ := hR.ex
    have hx := hf d
    rcases h with ⟨h1, h2⟩ | ⟨h1 | h1, h2⟩
    ·rw [h1] at hx
     rw [if_pos (by simp [Region.wanted, hg, fZ hd3 hx])]
     exact .inl (wanted h2 hR)
    ·rw [h1] at hx
     exact skip (by rw [fZ hd3 hx]; cases want <;> simp) h2
    ·rw [h1] at hx
     exact skip (by rw [rN hd3 hx]; simp) h2
theorem mO {ops : Array Oper} {c0 : Nat} {K : PS → Prop} : ∀ (l : List Oper) (k clk : Nat) (st : ST), (∀ j, j < l.length → l[j]? = ops[k + j]?) → rM E l = true → clk = c0 + rk E ops.toList k → aN E ops.toList clk k l K st → agL E .any ops c0 (fun st => K ⟨st.f, st.rows, c0 + rk E ops.toList (k + l.length)⟩) k l st
 | [], k, clk, st, _, _, hc, h => by subst hc; exact h
 | o :: os, k, clk, st, hl, G0, hc, h => by
  have agN : rM E os = true := by simp only [rM, List.all_cons, Bool.and_eq_true] at G0 ⊢; exact G0.2
  have arA : o.guard ≠ none → cW E o.op = false := fun hg => by
   simp only [rM, List.all_cons, Bool.and_eq_true] at G0
   cases hn : cW E o.op with
   | false => rfl
   | true => have := G0.1; rw [hn] at this; simp at this; exact absurd this.2 hg
  have h0 : ops[k]? = some o := by simpa using (hl 0 (by simp)).symm
  have sI : gI E o.op clk = c0 + rk E ops.toList (k + 1) := by rw [hc]; exact abO (by simpa using h0)
  have hl1 : ∀ j, j < os.length → os[j]? = ops[k + 1 + j]? := fun j hj => by have := hl (j + 1) (by simp; omega); simpa [Nat.add_assoc, Nat.add_comm 1 j] using this
  have e1 : k + (o :: os).length = k + 1 + os.length := by simp only [List.length_cons]; omega
  rw [e1]
  simp only [aN] at h
  split at h
  ·rename_i hg
   obtain ⟨v, u, h1, h2, h3⟩ := h
   exact ⟨true, v, u, ⟨by simp [gOK, hg], by rw [if_pos rfl, ← hc]; exact h1⟩, h2, mO os _ _ _ hl1 agN sI h3⟩
  ·rename_i j want hg
   split at h
   ·exact h.elim
   ·rename_i d RS
    have hd3 : (ops[j]?).bind (·.dst) = some d := by simpa using RS
    rcases h with ⟨h1, v, u, q1, q2, q3⟩ | ⟨h1, h2⟩
    ·exact ⟨true, v, u, ⟨by simp only [gOK, hg]; exact ⟨d, hd3, .inl ⟨h1, trivial⟩⟩, by rw [if_pos rfl, ← hc]; exact q1⟩, q2, mO os _ _ _ hl1 agN sI q3⟩
    ·exact ⟨false, .eN [], none, ⟨by simp only [gOK, hg]; exact ⟨d, hd3, .inr ⟨h1, trivial⟩⟩, by simp⟩, trivial, mO os _ _ _ hl1 agN (by rw [← sI, yL (arA (by rw [hg]; simp))]) h2⟩
theorem Rel.drew {σ : PS} {a : Act} {w : World} (h : Rel w0 S0 n G σ a w) : Rel w0 S0 n G σ a { w with drawn := w.drawn + 1 } := by
 obtain ⟨⟨c, rfl, hr, eT, hI, hf, hG⟩, hn, eK⟩ := h
 obtain ⟨uG, hA⟩ := hI.grow (w' := { c.w with drawn := c.w.drawn + 1 }) (S' := c.S) ⟨rfl, rfl, rfl, Nat.le_refl _, fun _ _ => rfl⟩ (fun _ _ h => h) (fun _ _ h => .inl h)
 exact ⟨⟨{ c with w := { c.w with drawn := c.w.drawn + 1 } }, rfl, hr, eT, uG, fun s => aI.rG hA _ _ (hf s), fun p hp => aI.rG hA _ _ (hG p hp)⟩, hn, eK⟩
theorem qY {id tl : Nat} {ops : Array Oper} {K : PS → Prop} {Q : Exit → Act → World → Prop} (fF : oT E n tl ops true = true) {σ : PS} {a : Act} {w : World} (h : fJ E tl ops.toList K σ) (hR : Rel w0 S0 n G σ a w)
  (hK : ∀ σ' a' w', K σ' → Rel w0 S0 n G σ' a' w' → Q .normal a' w') : (Code.region id ops true).wp E.P Q a w := by
 simp only [oT, Bool.and_eq_true, Bool.not_true, Bool.false_or] at fF
 obtain ⟨agO, qZ, fF⟩ := fF
 have hd : ∀ o, o ∈ ops → ∀ t, o.dst = some t → t < n := by
  intro o ho t ht
  have := Array.all_eq_true_iff_forall_mem.1 agO o ho
  simpa [ht] using this
 refine wp_region_any E.mixed ?_
 have G1 := hR.drew
 have hU0 : ∀ k (l : Array Bool), m9 w0 S0 n G (Ul E ops σ.clock k l) σ.f σ.rows a { w with drawn := w.drawn + 1 } := fun k l => G1.mono fun v hv => .inl hv
 have abT : ∀ (l : List Oper), rM E l = true → ∀ (i : Nat) (oi : Oper), l[i]? = some oi → cW E oi.op = true → oi.dst.isSome = true := fun l h i oi hi hn => by
  have := List.all_eq_true.1 h oi (List.mem_of_getElem? hi)
  rw [hn] at this; simp at this; exact Option.isSome_iff_exists.2 (by obtain ⟨x, hx⟩ := Option.isSome_iff_exists.1 this.1; exact ⟨x, hx⟩)
 unfold fJ at h
 by_cases htl : tl = 0
 ·rw [if_pos htl] at h fF qZ
  have m8 : ∀ i oi, i < ops.size → ops[i]? = some oi → cW E oi.op = true → oi.dst.isSome = true := fun i oi _ hi => abT _ qZ i oi (by simpa using hi)
  simp only [Bool.and_eq_true] at fF
  have hl := mO (c0 := σ.clock) ops.toList 0 _ _ (by simp) qZ (by simp [rk]) h
  have VU : HeadInv .any ops ops.size (Array.replicate ops.size false) :=
   ⟨by simp, fun j oj _ hl => (by rw [getD_replicate_false] at hl; cases hl), fun t h1 h2 => by omega⟩
  have yO : ∀ aY, HeadInv .any ops ops.size aY → ∀ i, i < ops.size → aY.getD i true = false → ∀ t, ops.size ≤ t → t ∉ Region.ready .any ops aY := by
   intro aY _ i _ _ t ht hr
   obtain ⟨_, o, ho, _⟩ := mem_ready.1 hr
   have := (Array.getElem?_eq_some_iff.1 ho).1
   omega
  have H := pT (E := E) (md := .any) (g := 0) m8 yO ops.toList 0 _ _ (by simp) (by simp) VU (by simpa using fF.2) hl
  have := jV (E := E) (md := .any) (g := 0) (Q := Q) (m := n) hd (fun aY st a' w' hL jZ => by
   obtain ⟨h1, h2⟩ := hL
   exact ⟨by simpa [Region.seqB] using h1, hK _ _ _ h2 (jZ.mono fun v hv => by have := LD hv; simpa using this)⟩) _ _ _ _ _ (by simp) H (hU0 _ _)
  simpa using this
 ·rw [if_neg htl] at h fF qZ
  have m8 : ∀ i oi, i < ops.size - tl → ops[i]? = some oi → cW E oi.op = true → oi.dst.isSome = true := fun i oi h1 hi => abT _ qZ i oi (by rw [List.getElem?_take, if_pos h1]; simpa using hi)
  simp only [Bool.and_eq_true, decide_eq_true_eq] at fF
  obtain ⟨hle, hB⟩ := fF
  simp only [Region.lexTailB, Bool.and_eq_true, decide_eq_true_eq] at hB
  obtain ⟨⟨⟨⟨arB, xF⟩, hs⟩, hc⟩, agP⟩ := hB
  have hlen : ops.toList.length = ops.size := by simp
  rw [hlen] at h
  have hl := mO (c0 := σ.clock) (ops.toList.take (ops.size - tl)) 0 _ _ (fun j hj => by
   have hj' : j < ops.size - tl := by simpa using hj
   simp [hj']) qZ (by simp [rk]) h
  have VU : HeadInv .any ops (ops.size - tl) (Array.replicate ops.size false) :=
   ⟨by simp, fun j oj _ hl => (by rw [getD_replicate_false] at hl; cases hl), fun t _ ht => getD_in (by simpa using ht) (getD_replicate_false _ _)⟩
  have AZ : (ops.toList.take (ops.size - tl)).length = ops.size - tl := by simp
  have VV : (ops.toList.drop (ops.size - tl)).length = ops.size - (ops.size - tl) := by simp
  have H := pT (E := E) (md := .any) (n := ops.size - tl) (g := ops.size - (ops.size - tl)) m8 (fun aY inv i hi KG t ht => tail_waits hs hc xF inv _ i rfl hi KG t ht) (ops.toList.take (ops.size - tl)) 0 _ _ (fun j hj => by
   rw [AZ] at hj
   simp [hj]) (by rw [AZ]; simp) VU (by rw [AZ]; exact agP) hl
  have := jV (E := E) (md := .any) (g := ops.size - (ops.size - tl)) (Q := Q) (m := n) hd (fun aY st a' w' hL jZ => by
   obtain ⟨h1, h2⟩ := hL
   have h3 := fO (ops := ops) (Q := Q) hK (ops.toList.drop (ops.size - tl)) _ a' w' (fun o ho => hd o (by simpa using List.mem_of_mem_drop ho)) h2 (jZ.mono fun v hv => by have := LD hv; simpa using this)
   have h4 := wpAny_of_seq (md := .any) (Q' := Q) (ops.toList.drop (ops.size - tl)) (ops.size - tl) aY a' w' (fun j => by simp [List.getElem?_drop]) (by rw [VV]; exact h1) h3
   rwa [VV] at h4) _ _ _ _ _ (by simp) H (hU0 _ _)
  rw [AZ, show ops.size - tl + (ops.size - (ops.size - tl)) = ops.size by omega] at this
  exact this
def agQ : PX → Exit
 | .normal => .normal
 | .exit id => .exit id
 | .ret => .ret
end
def nZ (E : Env) (σ : PS) : List ResultVar → (List PV → Prop) → Prop
 | [], K => K []
 | .tmp t :: rs, K => nZ E σ rs fun vs => K (σ.f t :: vs)
 | .cell a t :: rs, K => ∃ v, qR E t σ.rows (σ.f a) v ∧ nZ E σ rs fun vs => K (v :: vs)
def G2 : List PV → PV
 | [x] => x
 | l => .eN l
def VW (E : Env) (rs : List ResultVar) (r : PV) (σ : PS) : Prop :=
 nZ E σ rs fun vs => dM σ.rows (vs.flatMap dC) ∧ (vs.map (pz σ.rows)).all eV = true ∧ r = G2 (vs.map (pz σ.rows))
def abV (E : Env) (rs : List ResultVar) (r : PV) : PX → PS → Prop
 | .normal, σ => VW E rs r σ
 | .ret, σ => VW E rs r σ
 | .exit _, _ => False
def B6 (args : List PV) : PS := ⟨fun s => args.getD s .undef, fun _ => none, 0⟩
section
variable {E : Env} {w0 : World} {S0 : dB} {c : Cx}
theorem pU (hI : Inv w0 S0 c) {clk : Nat} {a : Act} {f : Nat → PV} (hf : ∀ s, aI c (f s) (a.tmps.getD s undef)) {g : ResultVar → Sem Value} (VX : ∀ t, g (.tmp t) = pure (a.tmps.getD t undef))
  (oP : ∀ x t, g (.cell x t) = do loadVar t (← asAddr (a.tmps.getD x undef))) : ∀ (rs : List ResultVar) (K : List PV → Prop), nZ E ⟨f, c.rows, clk⟩ rs K →
  ∃ vs us, K vs ∧ a7 (aI c) vs us ∧ (rs.mapM g : Sem (List Value)).run E.P c.w = .ok us c.w
 | [], K, h => ⟨[], [], h, trivial, by simp⟩
 | .tmp t :: rs, K, h => by
  obtain ⟨vs, us, h1, h2, h3⟩ := pU hI hf VX oP rs _ h
  exact ⟨f t :: vs, a.tmps.getD t undef :: us, h1, ⟨hf t, h2⟩, by
   rw [List.mapM_cons, VX, Sem.run_bind, Sem.run_pure, Result.andThen_ok, Sem.run_bind, h3, Result.andThen_ok, Sem.run_pure]⟩
 | .cell x t :: rs, K, h => by
  obtain ⟨v, hv, h⟩ := h
  obtain ⟨vs, us, h1, h2, h3⟩ := pU hI hf VX oP rs _ h
  obtain ⟨u, hu, hr⟩ := BS hI (hf x) hv
  refine ⟨v :: vs, u :: us, h1, ⟨hr, h2⟩, ?_⟩
  have RD : (do loadVar t (← asAddr (a.tmps.getD x undef)) : Sem Value).run E.P c.w = .ok u c.w := by
   simp only [Instr.loadAt, Sem.run_bind] at hu ⊢
   cases hx : a.tmps.getD x undef with
   | pointer p =>
    cases p with
    | some ad => rw [hx] at hu; simpa [Instr.sureAddr, asAddr] using hu
    | none => rw [hx] at hu; simp [Instr.sureAddr, stuck, Result.andThen] at hu
   | _ => rw [hx] at hu; simp [Instr.sureAddr, stuck, Result.andThen] at hu
  rw [List.mapM_cons, oP]
  simp only [Sem.run_bind] at RD ⊢
  rw [RD, Result.andThen_ok, h3, Result.andThen_ok, Sem.run_pure]
theorem LF {B7 : FuncId} {fn : Func} {code : Code} {args : List PV} {r : PV} (h1 : E.P.funcs[B7]? = some fn) (h2 : fn.body = some code) (h3 : (fn.name == "runtime.NumGoroutine") = false) (fI : args.length ≤ fn.ntmps)
  (h : ∀ (w0 : World) (S0 : dB) (a : Act) (w : World) (Q' : Exit → Act → World → Prop), Rel w0 S0 fn.ntmps Gs.none (B6 args) a w → (∀ x σ' a' w', abV E fn.results.toList r x σ' → Rel w0 S0 fn.ntmps Gs.none σ' a' w' → Q' (agQ x) a' w') → code.wp E.P Q' a w) : aL E.P B7 args r := by
 refine ⟨⟨fn, code, h1, h2, h3⟩, fun w S vs hS eW => ?_⟩
 have yD := cB.1 eW
 refine calls_of_wp h1 h2 ?_
 have KS : vs.length = args.length := yD.length.symm
 let c0 : Cx := ⟨S, w, fun _ => .slice none 0 0, fun _ => none, fun _ => False⟩
 have hI0 : Inv w S c0 := ⟨Below.refl _ _, fun _ _ h => h, fun _ _ h => .inl h, hS, fun _ _ h => by simp [c0] at h, fun _ _ h => by simp [c0] at h, fun _ _ _ _ _ h => by simp [c0] at h⟩
 have G1 : Rel w S fn.ntmps Gs.none (B6 args) { tmps := vs.toArray ++ Array.replicate (fn.ntmps - vs.toArray.size) undef, defers := [] } w := by
  refine ⟨⟨c0, rfl, rfl, fun _ h => h.elim, hI0, fun s => ?_, fun p hp => (Gs.GP hp).elim⟩, by simp; omega, rfl⟩
  simp only [B6]
  by_cases hs : s < args.length
  ·obtain ⟨u, hu, hr⟩ := yD.get (List.getElem?_eq_getElem hs)
   have e1 : args.getD s .undef = args[s] := by simp [List.getD, List.getElem?_eq_getElem hs]
   have e2 : (vs.toArray ++ Array.replicate (fn.ntmps - vs.toArray.size) undef).getD s undef = u := by
    have : s < vs.length := by omega
    simp [this] at hu ⊢
    simp [Array.getElem?_append, this, hu]
   rw [e1]
   show aI c0 args[s] ((vs.toArray ++ Array.replicate (fn.ntmps - vs.toArray.size) undef).getD s undef)
   rw [e2]
   exact aI.iT hr
  ·have e1 : args.getD s .undef = .undef := by simp [List.getD, List.getElem?_eq_none (show args.length ≤ s by omega)]
   rw [e1]
   simp [aI, aP]
 refine h _ _ _ _ _ G1 ?_
 have fin : ∀ σ' a' w', VW E fn.results.toList r σ' → Rel w S fn.ntmps Gs.none σ' a' w' → a'.defers = [] ∧ ∃ v, (results fn a'.tmps).run E.P w' = .ok v w' ∧ (∃ v', Ending.returned v = .returned v' ∧ Below w.heap.size w w' ∧
   ∃ S' : dB, (∀ b o, S b o → S' b o) ∧ (∀ b o, S' b o → S b o ∨ (w.heap.size ≤ b ∧ b < w'.heap.size)) ∧ cL S' w' r v') := by
  rintro σ' a' w' hp ⟨⟨c, rfl, hr, eT, hI, hf, _⟩, hn, eK⟩
  refine ⟨eK, ?_⟩
  unfold VW at hp
  have uF : nZ E ⟨σ'.f, c.rows, σ'.clock⟩ fn.results.toList fun vs => dM c.rows (vs.flatMap dC) ∧ (vs.map (pz c.rows)).all eV = true ∧ r = G2 (vs.map (pz c.rows)) := by
   rw [hr]; exact hp
  have alU : ∃ vs us, (dM c.rows (vs.flatMap dC) ∧ (vs.map (pz c.rows)).all eV = true ∧ r = G2 (vs.map (pz c.rows))) ∧ a7 (aI c) vs us ∧
    (results fn a'.tmps).run E.P c.w = .ok (if h : us.toArray.size = 1 then us.toArray[0] else .tuple us.toArray) c.w := by
   have key : ∀ g : ResultVar → Sem Value, (∀ t, g (.tmp t) = pure (a'.tmps.getD t undef)) → (∀ x t, g (.cell x t) = do loadVar t (← asAddr (a'.tmps.getD x undef))) →
     ∃ vs us, (dM c.rows (vs.flatMap dC) ∧ (vs.map (pz c.rows)).all eV = true ∧ r = G2 (vs.map (pz c.rows))) ∧ a7 (aI c) vs us ∧
      (do let vs ← fn.results.mapM g; pure (if h : vs.size = 1 then vs[0] else .tuple vs) : Sem Value).run E.P c.w = .ok (if h : us.toArray.size = 1 then us.toArray[0] else .tuple us.toArray) c.w := by
    intro g VX oP
    obtain ⟨vs, us, g1, g4, g5⟩ := pU hI hf VX oP _ _ uF
    refine ⟨vs, us, g1, g4, ?_⟩
    have : (fn.results.mapM g).run E.P c.w = .ok us.toArray c.w := by
     rw [Array.mapM_eq_mapM_toList]
     simp [g5]
    rw [Sem.run_bind, this, Result.andThen_ok, Sem.run_pure]
   unfold results
   exact key _ (fun _ => rfl) (fun _ _ => rfl)
  obtain ⟨vs, us, ⟨g1, g2, g3⟩, g4, iU⟩ := alU
  have GR := hI.freeze (vs.flatMap dC)
  have rO : a7 (cL (K3 c (vs.flatMap dC)) c.w) (vs.map (pz c.rows)) us := by
   refine a7.cY (by simp [g4.length]) fun k p u hp hu => ?_
   simp at hp
   obtain ⟨q, hq, rfl⟩ := hp
   obtain ⟨u', q1, q2⟩ := g4.get hq
   rw [hu] at q1; cases q1
   exact DT hI g1 q2 (fun id gE => by simp only [List.mem_flatMap]; exact ⟨q, List.mem_of_getElem? hq, gE⟩) (List.all_eq_true.1 g2 _ (by simp; exact ⟨q, List.mem_of_getElem? hq, rfl⟩))
  refine ⟨_, iU, _, rfl, hI.below, K3 c (vs.flatMap dC), fun b o h => GR.ext b o h, fun b o h => GR.new b o h, ?_⟩
  rw [g3]
  have hl := rO.length
  cases hm : vs.map (pz c.rows) with
  | nil =>
   rw [hm] at rO hl
   have : us = [] := List.eq_nil_of_length_eq_zero (by simpa using hl.symm)
   subst this
   simp only [G2, cL]
   exact ⟨[], by simp, by simp [bJ]⟩
  | cons p ps =>
   rw [hm] at rO hl
   match us, rO with
   | u :: us, rO =>
    cases ps with
    | nil =>
     match us, rO with
     | [], rO => simpa [G2] using rO.1
    | cons q qs =>
     have h2 : ¬ (u :: us).toArray.size = 1 := by simp at hl ⊢; intro h; subst h; simp at hl
     rw [dif_neg h2]
     simp only [G2, cL]
     exact ⟨_, rfl, cB.2 rO⟩
 intro x σ' a' w' hx jZ
 cases x with
 | normal => exact fin σ' a' w' hx jZ
 | ret => exact fin σ' a' w' hx jZ
 | exit id => exact hx.elim
end
section
variable {P : Program} {t : TypeId}
theorem aD {n : Nat} {v : Value} {z : List PV} (h : (P.info? t).bind (fun i => i.zero.map fun v => (i.size, v)) = some (n, v)) (hz : v.cells.toList.map gX = z) (h1 : v.cells.all (·.oneCell') = true) (hl : z.length = n) (hp : 0 < n) : j7 P t n z := by
 refine ⟨?_, hl, hp⟩
 cases hi : P.info? t with
 | none => simp [hi] at h
 | some i =>
  cases oE : i.zero with
  | none => simp [hi, oE] at h
  | some v0 =>
   simp [hi, oE] at h
   obtain ⟨rfl, rfl⟩ := h
   exact ⟨i, v0, rfl, oE, rfl, hz, h1⟩
theorem cK {b : Nat} (h : (P.info? t).map (·.bytes) = some b) : ∃ i, P.info? t = some i ∧ i.bytes = b := by
 cases hi : P.info? t with
 | none => simp [hi] at h
 | some i => exact ⟨i, rfl, by simpa [hi] using h⟩
theorem RU {n : Nat} (h : (P.info? t).map (·.size) = some n) : ∃ i, P.info? t = some i ∧ i.size = n := by
 cases hi : P.info? t with
 | none => simp [hi] at h
 | some i => exact ⟨i, rfl, by simpa [hi] using h⟩
theorem VY (h : (P.underlying t).isSome = true) : ∃ d, P.underlying t = some d := Option.isSome_iff_exists.1 h
def LG (P : Program) (f : Field) (x : Nat × Nat × Bool) : Bool :=
 f.offset == x.1 && (P.info? f.type).map (·.size) == some x.2.1 && decide (0 < x.2.1) && uN P f.type == x.2.2 && (P.underlying f.type).isSome
def pV (P : Program) : List Field → List (Nat × Nat × Bool) → Bool
 | [], [] => true
 | f :: fs, x :: xs => LG P f x && pV P fs xs
 | _, _ => false
theorem RV {f : Field} {x : Nat × Nat × Bool} (h : LG P f x = true) : lI P f x := by
 simp only [LG, Bool.and_eq_true, beq_iff_eq, decide_eq_true_eq] at h
 obtain ⟨⟨⟨⟨h1, h2⟩, h3⟩, h4⟩, h5⟩ := h
 exact ⟨h1, RU h2, h3, h4, VY h5⟩
theorem yP : ∀ {fs : List Field} {xs : List (Nat × Nat × Bool)}, pV P fs xs = true → a7 (lI P) fs xs
 | [], [], _ => trivial
 | f :: fs, x :: xs, h => by
  simp only [pV, Bool.and_eq_true] at h
  exact ⟨RV h.1, yP h.2⟩
 | [], _ :: _, h => by simp [pV] at h
 | _ :: _, [], h => by simp [pV] at h
def OQ (P : Program) (t : TypeId) (xs : List (Nat × Nat × Bool)) : Bool :=
 match P.underlying t with
 | some (.struct fields) => pV P fields.toList xs
 | _ => false
theorem bA {xs : List (Nat × Nat × Bool)} (h : OQ P t xs = true) : ∃ fields : Array Field, P.underlying t = some (.struct fields) ∧ a7 (lI P) fields.toList xs := by
 unfold OQ at h
 split at h
 ·rename_i fields hu; exact ⟨fields, hu, yP h⟩
 ·cases h
end
def W (E : Env) (n : Nat) (tl : Nat → Nat) (c : Code) (Q : PX → PS → Prop) (σ : PS) : Prop :=
 eB E n tl c = true → ∀ (w0 : World) (S0 : dB) (G : Gs) (a : Act) (w : World) (Q' : Exit → Act → World → Prop), Rel w0 S0 n G σ a w →
  (∀ x σ' a' w', Q x σ' → Rel w0 S0 n G σ' a' w' → Q' (agQ x) a' w') → c.wp E.P Q' a w
def Gh (n : Nat) (σ σ' : PS) : Prop := ∀ (w0 : World) (S0 : dB) (G : Gs) (a : Act) (w : World), Rel w0 S0 n G σ a w → Rel w0 S0 n G σ' a w
section
variable {E : Env} {n : Nat} {tl : Nat → Nat} {Q : PX → PS → Prop} {σ : PS}
theorem W.ghost {c : Code} {σ' : PS} (h : Gh n σ σ') (hw : W E n tl c Q σ') : W E n tl c Q σ := fun fF w0 S0 G a w Q' hR hQ => hw fF w0 S0 G a w Q' (h _ _ _ _ _ hR) hQ
theorem W.mono {c : Code} {Q2 : PX → PS → Prop} (hw : W E n tl c Q2 σ) (h : ∀ x σ, Q2 x σ → Q x σ) : W E n tl c Q σ := fun fF w0 S0 G a w Q' hR hQ => hw fF w0 S0 G a w Q' hR fun x σ' a' w' hx => hQ x σ' a' w' (h x σ' hx)
theorem W.skip (h : Q .normal σ) : W E n tl .skip Q σ := fun _ _ _ _ a w _ hR hQ => wp_skip (hQ .normal σ a w h hR)
theorem W.ret (h : Q .ret σ) : W E n tl .ret Q σ := fun _ _ _ _ a w _ hR hQ => wp_ret (hQ .ret σ a w h hR)
theorem W.exit {id : Nat} (h : Q (.exit id) σ) : W E n tl (.exit id) Q σ := fun _ _ _ _ a w _ hR hQ => wp_exit (hQ (.exit id) σ a w h hR)
theorem W.G3 {id : Nat} {ops : List Oper} (h : ∀ K : PS → Prop, (∀ σ, Q .normal σ → K σ) → aK E ops ops K σ) : W E n tl (.region id ops.toArray false) Q σ := by
 intro fF w0 S0 G a w Q' hR hQ
 simp only [eB, oT, Bool.and_eq_true] at fF
 refine wp_region_list (fO (fun σ' a' w' hk jZ => hQ .normal σ' a' w' hk jZ) _ σ a w (fun o ho t ht => ?_) (h _ fun _ h => h) hR)
 have := Array.all_eq_true_iff_forall_mem.1 fF.1 o (by simpa using ho)
 simpa [ht] using this
theorem W.VZ {id : Nat} {ops : List Oper} (h : ∀ K : PS → Prop, (∀ σ, Q .normal σ → K σ) → fJ E (tl id) ops K σ) : W E n tl (.region id ops.toArray true) Q σ := by
 intro fF w0 S0 G a w Q' hR hQ
 exact qY (by simpa [eB] using fF) (h _ fun _ h => h) hR fun σ' a' w' hk jZ => hQ .normal σ' a' w' hk jZ
theorem W.seq {x y : Code} (h : W E n tl x (A9 (W E n tl y Q) Q) σ) : W E n tl (.seq x y) Q σ := by
 intro fF w0 S0 G a w Q' hR hQ
 simp only [eB, Bool.and_eq_true] at fF
 refine wp_seq (h fF.1 w0 S0 G a w _ hR fun x σ' a' w' hx jZ => ?_)
 cases x with
 | normal => exact hx fF.2 w0 S0 G a' w' _ jZ hQ
 | exit id => exact hQ (.exit id) σ' a' w' hx jZ
 | ret => exact hQ .ret σ' a' w' hx jZ
theorem W.LH {id : Nat} {ops : List Oper} {y : Code} (h : ∀ K : PS → Prop, (∀ σ, W E n tl y Q σ → K σ) → aK E ops ops K σ) : W E n tl (.seq (.region id ops.toArray false) y) Q σ :=
 W.seq (W.G3 h)
theorem W.V0 {id : Nat} {ops : List Oper} {y : Code} (h : ∀ K : PS → Prop, (∀ σ, W E n tl y Q σ → K σ) → fJ E (tl id) ops K σ) : W E n tl (.seq (.region id ops.toArray true) y) Q σ :=
 W.seq (W.VZ h)
theorem W.cond {c : Operand} {t e : Code} (h : ∃ b, aQ σ.f c = .bool b ∧ (b = true → W E n tl t Q σ) ∧ (b = false → W E n tl e Q σ)) : W E n tl (.cond c t e) Q σ := by
 intro fF w0 S0 G a w Q' hR hQ
 simp only [eB, Bool.and_eq_true] at fF
 obtain ⟨b, hb, h1, h2⟩ := h
 obtain ⟨cx, _, _, _, _, hf, _⟩ := hR.ex
 have := kD hf c
 rw [hb, cZ] at this
 refine wp_cond this ?_
 cases b with
 | true => exact h1 rfl fF.1 w0 S0 G a w Q' hR hQ
 | false => exact h2 rfl fF.2 w0 S0 G a w Q' hR hQ
theorem W.block {id : Nat} {c : Code} (h : W E n tl c (BA id Q) σ) : W E n tl (.block id c) Q σ := by
 intro fF w0 S0 G a w Q' hR hQ
 refine wp_block (h fF w0 S0 G a w _ hR fun x σ' a' w' hx jZ => ?_)
 cases x with
 | normal => exact hQ .normal σ' a' w' hx jZ
 | exit j =>
  simp only [BA] at hx
  simp only [agQ, Exit.inBlock]
  split at hx
  ·rename_i hj; rw [if_pos hj]; exact hQ .normal σ' a' w' hx jZ
  ·rename_i hj; rw [if_neg hj]; exact hQ (.exit j) σ' a' w' hx jZ
 | ret => exact hQ .ret σ' a' w' hx jZ
theorem W.loop {c : Code} (I : Nat → PS → Prop) (k : Nat) (h0 : I k σ) (h1 : ∀ k σ, I k σ → W E n tl c (A9 (fun σ' => ∃ m, m < k ∧ I m σ') Q) σ) : W E n tl (.loop c) Q σ := by
 intro fF w0 S0 G a w Q' hR hQ
 refine wp_loop_ghost (fun k a w => ∃ σ, I k σ ∧ Rel w0 S0 n G σ a w) k ⟨σ, h0, hR⟩ ?_
 rintro k a w ⟨σ, hI, hR⟩
 refine h1 k σ hI fF w0 S0 G a w _ hR fun x σ' a' w' hx jZ => ?_
 cases x with
 | normal => obtain ⟨m, hm, uG⟩ := hx; exact ⟨m, hm, σ', uG, jZ⟩
 | exit id => exact hQ (.exit id) σ' a' w' hx jZ
 | ret => exact hQ .ret σ' a' w' hx jZ
end
theorem V1 {E : Env} {B7 : FuncId} {fn : Func} {code : Code} (tl : Nat → Nat) {args : List PV} {r : PV} (h1 : E.P.funcs[B7]? = some fn) (h2 : fn.body = some code) (h3 : (fn.name == "runtime.NumGoroutine") = false)
  (fF : eB E fn.ntmps tl code = true) (fI : args.length ≤ fn.ntmps) (h : W E fn.ntmps tl code (abV E fn.results.toList r) (B6 args)) : aL E.P B7 args r :=
 LF h1 h2 h3 fI fun w0 S0 a w Q' hR hQ => h fF w0 S0 Gs.none a w Q' hR hQ
def go (P : Prop) : Prop := P
def aU (R : PV → Prop) (K : PV → Prop) : Prop := ∃ v, R v ∧ K v
def gF (p : PV) (want : Bool) (A B : Prop) : Prop := ∃ t, p = .bool t ∧ (t = want → A) ∧ (t = (!want) → B)
def stepG (p : PV) (want : Bool) (A B : Prop) : Prop := (p = .bool want ∧ A) ∨ ((p = .bool (!want) ∨ p = .eN []) ∧ B)
def aH (A B : Prop) : Prop := A ∧ B
@[congr] theorem aez {R R' K : PV → Prop} (h : ∀ v, R v = R' v) : aU R K = aU R' K := by rw [show R = R' from funext h]
@[congr] theorem aeA {p p' : PV} {want : Bool} {A B : Prop} (h : p = p') : gF p want A B = gF p' want A B := by rw [h]
@[congr] theorem aeB {p p' : PV} {want : Bool} {A B : Prop} (h : p = p') : stepG p want A B = stepG p' want A B := by rw [h]
@[congr] theorem aeC {A A' B : Prop} (h : A = A') : aH A B = aH A' B := by rw [h]
@[congr] theorem agR {E : Env} {ops l : List Oper} {K : PS → Prop} {σ σ' : PS} (h : σ = σ') : aK E ops l K σ = aK E ops l K σ' := by rw [h]
@[congr] theorem agS {E : Env} {ops l : List Oper} {clk k k' : Nat} {K : PS → Prop} {σ σ' : ST} (hk : k = k') (h : σ = σ') : aN E ops clk k l K σ = aN E ops clk k' l K σ' := by rw [hk, h]
@[congr] theorem agT {md : Region.Mode} {ops : List Oper} {j j' k k' : Nat} (hj : j = j') (hk : k = k') : nB md ops j k = nB md ops j' k' := by rw [hj, hk]
@[congr] theorem ajI {md : Region.Mode} {ops : List Oper} {i i' id iQ : Nat} {t t' : Nat → Nat → Prop} (hi : i = i') (gE : id = iQ) (ht : t = t') : yK md ops i id t = yK md ops i' iQ t' := by rw [hi, gE, ht]
@[congr] theorem agU {md : Region.Mode} {ops : List Oper} {i i' : Nat} {t t' : Nat → Nat → Prop} {rows rows' : Rows} (hi : i = i') (ht : t = t') (hr : rows = rows') : dN md ops i t rows = dN md ops i' t' rows' := by rw [hi, ht, hr]
@[congr] theorem abc {E : Env} {tl : Nat} {l : List Oper} {K : PS → Prop} {σ σ' : PS} (h : σ = σ') : fJ E tl l K σ = fJ E tl l K σ' := by rw [h]
@[congr] theorem apt {E : Env} {n : Nat} {tl : Nat → Nat} {c : Code} {Q : PX → PS → Prop} {σ σ' : PS} (h : σ = σ') : W E n tl c Q σ = W E n tl c Q σ' := by rw [h]
theorem iW {t : PV} {K : PV → Prop} : aU (fun v => v = t) K = K t := by simp [aU]
theorem RW {t : PV} {K : PV → Prop} : aU (fun v => t = v) K = K t := by simp [aU]
theorem iH {c : Prop} {R K : PV → Prop} : aU (fun v => c ∧ R v) K = aH c (aU R K) := by
 apply propext; simp only [aU, aH]
 constructor
 ·rintro ⟨v, ⟨h1, h2⟩, h3⟩; exact ⟨h1, v, h2, h3⟩
 ·rintro ⟨h1, v, h2, h3⟩; exact ⟨v, ⟨h1, h2⟩, h3⟩
theorem V2 {α : Type} {R : α → PV → Prop} {K : PV → Prop} : aU (fun v => ∃ x, R x v) K = ∃ x, aU (R x) K := by
 apply propext; simp only [aU]
 constructor
 ·rintro ⟨v, ⟨x, h2⟩, h3⟩; exact ⟨x, v, h2, h3⟩
 ·rintro ⟨x, v, h2, h3⟩; exact ⟨v, ⟨x, h2⟩, h3⟩
theorem LI {B : Prop} : aH True B = B := by simp [aH]
theorem V3 {A B : Prop} : gF (.bool true) true A B = A := by simp [gF]
theorem V4 {A B : Prop} : gF (.bool true) false A B = B := by simp [gF]
theorem V5 {A B : Prop} : gF (.bool false) true A B = B := by simp [gF]
theorem V6 {A B : Prop} : stepG (.bool true) true A B = A := by simp [stepG]
theorem V7 {A B : Prop} : stepG (.bool true) false A B = B := by simp [stepG]
theorem V8 {A B : Prop} : stepG (.bool false) true A B = B := by simp [stepG]
theorem V9 {A B : Prop} : stepG (.bool false) false A B = A := by simp [stepG]
theorem WA {w : Bool} {A B : Prop} : stepG (.eN []) w A B = B := by simp [stepG]
theorem WB {A B : Prop} : gF (.bool false) false A B = A := by simp [gF]
theorem yQ {f : Nat → PV} {d j : Nat} {v : PV} : put f (some d) v j = if j = d then v else f j := rfl
theorem WC {f : Nat → PV} {v : PV} : put f none v = f := rfl
theorem agV {α : Type} {f : Nat → α} {i j : Nat} {x : α} : dE f i x j = if j = i then x else f j := rfl
def fa : List (Nat × PV) → Nat → PV
 | [], _ => .undef
 | (i, v) :: l, j => if j = i then v else fa l j
theorem LJ {j : Nat} : fa [] j = .undef := rfl
theorem D2 {i j : Nat} {v : PV} {l : List (Nat × PV)} : fa ((i, v) :: l) j = if j = i then v else fa l j := rfl
section
variable {E : Env} {ops os : List Oper} {K : PS → Prop} {f : Nat → PV} {rows : Rows} {clk : Nat} {d : Option Tmp} {ty : TypeId} {pos : String} {af : Array Edge}
theorem aC (n : Nat) (l : List Nat) : Gh n ⟨f, rows, clk⟩ ⟨fa (l.map fun i => (i, f i)), rows, clk⟩ := by
 rintro w0 S0 G a w ⟨⟨c, h1, h2, h3, h4, h5, h6⟩, h7, h8⟩
 refine ⟨⟨c, h1, h2, h3, h4, fun s => ?_, h6⟩, h7, h8⟩
 have : fa (l.map fun i => (i, f i)) s = f s ∨ fa (l.map fun i => (i, f i)) s = .undef := by
  induction l with
  | nil => exact .inr rfl
  | cons i l ih =>
   simp only [List.map_cons, fa]
   split
   ·rename_i h; rw [h]; exact .inl rfl
   ·exact ih
 rcases this with h | h
 ·simp only; rw [h]; exact h5 s
 ·simp only; rw [h]; simp [aI, aP]
theorem W.live {n : Nat} {tl : Nat → Nat} {c : Code} {Q : PX → PS → Prop} (l : List Nat) (h : W E n tl c Q ⟨fa (l.map fun i => (i, f i)), rows, clk⟩) : W E n tl c Q ⟨f, rows, clk⟩ := W.ghost (aC n l) h
theorem LK {op : Op} {j : Nat} {want : Bool} : aK E ops (⟨d, op, ty, pos, af, some (j, want)⟩ :: os) K ⟨f, rows, clk⟩ =
  match (ops[j]?).bind (·.dst) with
  | none => False
  | some e => stepG (f e) want (aK E ops (⟨d, op, ty, pos, af, none⟩ :: os) K ⟨f, rows, clk⟩) (aK E ops os K ⟨put f d (.eN []), rows, clk⟩) := by
 simp only [aK]
 cases hx : (ops[j]?).bind (·.dst) with
 | none => rfl
 | some e => rfl
theorem bW {R : PV → Prop} {k : PV → Prop} (h : ∀ v, R v ↔ k v) : (∃ v u, (R v ∧ u = none) ∧ K ⟨put f d v, eX rows u, clk⟩) = aU k fun v => K ⟨put f d v, rows, clk⟩ := by
 apply propext; simp only [aU]
 constructor
 ·rintro ⟨v, u, ⟨h1, rfl⟩, h2⟩; exact ⟨v, (h v).1 h1, h2⟩
 ·rintro ⟨v, h1, h2⟩; exact ⟨v, none, ⟨(h v).2 h1, rfl⟩, h2⟩
theorem RX {x : Operand} : aK E ops (⟨d, .move x, ty, pos, af, none⟩ :: os) K ⟨f, rows, clk⟩ = aK E ops os K ⟨put f d (aQ f x), rows, clk⟩ := by
 simp only [aK, dR, ys, yv]
 rw [bW (k := fun v => v = aQ f x) (fun v => Iff.rfl), iW]
theorem G4 {x : Operand} : aK E ops (⟨d, .assign x, ty, pos, af, none⟩ :: os) K ⟨f, rows, clk⟩ = aK E ops os K ⟨put f d (aQ f x), rows, clk⟩ := by
 simp only [aK, dR, ys, yv]
 rw [bW (k := fun v => v = aQ f x) (fun v => Iff.rfl), iW]
theorem RY {c a b : Operand} : aK E ops (⟨d, .pick c a b, ty, pos, af, none⟩ :: os) K ⟨f, rows, clk⟩ = gF (aQ f c) true (aK E ops os K ⟨put f d (aQ f a), rows, clk⟩) (aK E ops os K ⟨put f d (aQ f b), rows, clk⟩) := by
 simp only [aK, dR, ys, yv]
 rw [bW (fun v => Iff.rfl)]
 apply propext; simp only [aU, gF]
 constructor
 ·rintro ⟨v, ⟨t, h1, rfl⟩, h2⟩
  refine ⟨t, h1, fun h => ?_, fun h => ?_⟩
  ·subst h; exact h2
  ·subst h; exact h2
 ·rintro ⟨t, h1, h2, h3⟩
  cases t with
  | true => exact ⟨_, ⟨true, h1, rfl⟩, h2 rfl⟩
  | false => exact ⟨_, ⟨false, h1, rfl⟩, h3 rfl⟩
theorem WD {op : BinOp} {t t2 : TypeId} {x y : Operand} : aK E ops (⟨d, .binOp op t x y t2, ty, pos, af, none⟩ :: os) K ⟨f, rows, clk⟩ = aU (fun v => DL E op t (aQ f x) (aQ f y) v) fun v => aK E ops os K ⟨put f d v, rows, clk⟩ := by
 simp only [aK, dR, ys, yv]
 rw [bW (fun v => Iff.rfl)]
theorem abW {op : UnOp} {t : TypeId} {x : Operand} : aK E ops (⟨d, .unOp op t x, ty, pos, af, none⟩ :: os) K ⟨f, rows, clk⟩ = aU (fun v => yun op (aQ f x) v) fun v => aK E ops os K ⟨put f d v, rows, clk⟩ := by
 simp only [aK, dR, ys, yv]
 rw [bW (k := fun v => yun op (aQ f x) v) (fun v => Iff.rfl)]
theorem RZ {s t : TypeId} {x : Operand} : aK E ops (⟨d, .convert s t x, ty, pos, af, none⟩ :: os) K ⟨f, rows, clk⟩ = aU (fun v => qT (E.ty s) (E.ty t) (aQ f x) v) fun v => aK E ops os K ⟨put f d v, rows, clk⟩ := by
 simp only [aK, dR, ys, yv]
 rw [bW (k := fun v => qT (E.ty s) (E.ty t) (aQ f x) v) (fun v => Iff.rfl)]
theorem D3 {i : Nat} {x : Operand} : aK E ops (⟨d, .extract x i, ty, pos, af, none⟩ :: os) K ⟨f, rows, clk⟩ = aU (fun v => KN i (aQ f x) v) fun v => aK E ops os K ⟨put f d v, rows, clk⟩ := by
 simp only [aK, dR, ys, yv]
 rw [bW (k := fun v => KN i (aQ f x) v) (fun v => Iff.rfl)]
theorem R3 {t : TypeId} {x : Operand} : aK E ops (⟨d, .load t x, ty, pos, af, none⟩ :: os) K ⟨f, rows, clk⟩ = aU (fun v => qR E t rows (aQ f x) v) fun v => aK E ops os K ⟨put f d v, rows, clk⟩ := by
 simp only [aK, dR, ys, yv]
 rw [bW (fun v => Iff.rfl)]
theorem LM {t : TypeId} {i : Nat} {x : Operand} : aK E ops (⟨d, .field t x i, ty, pos, af, none⟩ :: os) K ⟨f, rows, clk⟩ = aU (fun v => rH E t i (aQ f x) v) fun v => aK E ops os K ⟨put f d v, rows, clk⟩ := by
 simp only [aK, dR, ys, yv]
 rw [bW (fun v => Iff.rfl)]
theorem yR {t : TypeId} {i : Nat} {x : Operand} : aK E ops (⟨d, .fieldAddr t x i, ty, pos, af, none⟩ :: os) K ⟨f, rows, clk⟩ = aU (fun v => eH E t rows i (aQ f x) v) fun v => aK E ops os K ⟨put f d v, rows, clk⟩ := by
 simp only [aK, dR, ys, yv]
 rw [bW (fun v => Iff.rfl)]
theorem yS {t : TypeId} {x y : Operand} : aK E ops (⟨d, .indexAddr t x y, ty, pos, af, none⟩ :: os) K ⟨f, rows, clk⟩ = aU (fun v => eI E t rows (aQ f x) (aQ f y) v) fun v => aK E ops os K ⟨put f d v, rows, clk⟩ := by
 simp only [aK, dR, ys, yv]
 rw [bW (fun v => Iff.rfl)]
theorem LN {t : TypeId} {x : Operand} {lo hi mx : Option Operand} : aK E ops (⟨d, .slice t x lo hi mx, ty, pos, af, none⟩ :: os) K ⟨f, rows, clk⟩ = aU (fun v => mC E t rows (aQ f x) (lo.map (aQ f)) (hi.map (aQ f)) (mx.map (aQ f)) v) fun v => aK E ops os K ⟨put f d v, rows, clk⟩ := by
 simp only [aK, dR, ys, yv]
 rw [bW (fun v => Iff.rfl)]
theorem LO {t : TypeId} {parts : Array (Nat × Operand)} : aK E ops (⟨d, .build t parts, ty, pos, af, none⟩ :: os) K ⟨f, rows, clk⟩ = aU (fun v => oK (E.ty t) (parts.toList.map fun x => (x.1, aQ f x.2)) v) fun v => aK E ops os K ⟨put f d v, rows, clk⟩ := by
 simp only [aK, dR, ys, yv]
 rw [bW (k := fun v => oK (E.ty t) (parts.toList.map fun x => (x.1, aQ f x.2)) v) (fun v => Iff.rfl)]
theorem LP {t : TypeId} {x y : Operand} : aK E ops (⟨d, .index t x y, ty, pos, af, none⟩ :: os) K ⟨f, rows, clk⟩ = aU (fun v => rI (E.ty t) (aQ f x) (aQ f y) v) fun v => aK E ops os K ⟨put f d v, rows, clk⟩ := by
 simp only [aK, dR, ys, yv]
 rw [bW (k := fun v => rI (E.ty t) (aQ f x) (aQ f y) v) (fun v => Iff.rfl)]
theorem WE {t : TypeId} {x : Operand} : aK E ops (⟨d, .call { callee := .builtin .len, args := ⟨[x]⟩, argTypes := ⟨[t]⟩ }, ty, pos, af, none⟩ :: os) K ⟨f, rows, clk⟩ = aU (fun v => vG (E.ty t) rows (aQ f x) v) fun v => aK E ops os K ⟨put f d v, rows, clk⟩ := by
 simp only [aK, dR, ys, yv]
 rw [bW (k := fun v => vG (E.ty t) rows (aQ f x) v) (fun v => Iff.rfl)]
theorem BB {x : Operand} : aK E ops (⟨d, .nilCheck x, ty, pos, af, none⟩ :: os) K ⟨f, rows, clk⟩ = aU (fun v => A5 rows (aQ f x) v) fun v => aK E ops os K ⟨put f d v, rows, clk⟩ := by
 simp only [aK, dR, ys, yv]
 rw [bW (k := fun v => A5 rows (aQ f x) v) (fun v => Iff.rfl)]
theorem WG {ts : Array TypeId} {x y : Operand} : aK E ops (⟨d, .call { callee := .builtin .max, args := ⟨[x, y]⟩, argTypes := ts }, ty, pos, af, none⟩ :: os) K ⟨f, rows, clk⟩ = aU (fun v => KP (aQ f x) (aQ f y) v) fun v => aK E ops os K ⟨put f d v, rows, clk⟩ := by
 simp only [aK, dR, ys, yv]
 rw [bW (fun v => Iff.rfl)]
theorem WH {ts : Array TypeId} {x y : Operand} : aK E ops (⟨d, .call { callee := .builtin .min, args := ⟨[x, y]⟩, argTypes := ts }, ty, pos, af, none⟩ :: os) K ⟨f, rows, clk⟩ = aU (fun v => KQ (aQ f x) (aQ f y) v) fun v => aK E ops os K ⟨put f d v, rows, clk⟩ := by
 simp only [aK, dR, ys, yv]
 rw [bW (fun v => Iff.rfl)]
theorem wY {t : TypeId} {len : Nat} {parts : Array (Nat × Operand)} : aK E ops (⟨d, .buildSlice t len parts, ty, pos, af, none⟩ :: os) K ⟨f, rows, clk⟩ = aU (fun v => K4 (E.ty t) rows len (parts.toList.map fun x => (x.1, aQ f x.2)) v) fun v => aK E ops os K ⟨put f d v, rows, clk⟩ := by
 simp only [aK, dR, ys]
 rw [bW (fun v => Iff.rfl)]
theorem LQ {t : TypeId} {p x : Operand} : aK E ops (⟨none, .store t p x, ty, pos, af, none⟩ :: os) K ⟨f, rows, clk⟩ = ∃ id r, oO E t rows (aQ f p) (aQ f x) .undef (some (id, r)) ∧ aK E ops os K ⟨f, dE rows id (some r), clk⟩ := by
 simp only [aK, dR, ys]
 apply propext
 constructor
 ·rintro ⟨v, u, h, h2⟩
  have h' := h
  obtain ⟨_, rfl, h3⟩ := h
  split at h3
  ·obtain ⟨_, _, _, _, _, _, _, _, _, _, rfl⟩ := h3
   exact ⟨_, _, h', h2⟩
  ·exact h3.elim
 ·rintro ⟨id, r, h, h2⟩; exact ⟨.undef, some (id, r), h, h2⟩
theorem LR {t : TypeId} : aK E ops (⟨d, .alloc t, ty, pos, af, none⟩ :: os) K ⟨f, rows, clk⟩ = aH ((E.ty t).known = true) (aK E ops os K ⟨put f d (.ptr (d.getD 0) clk 0 0), dE rows (d.getD 0) (some ⟨clk, t, (E.ty t).size, [(E.ty t).zero]⟩), clk + 1⟩) := rfl
theorem WI {t : TypeId} {x : Operand} : aK E ops (⟨d, .box t x, ty, pos, af, none⟩ :: os) K ⟨f, rows, clk⟩ = aH ((E.ty t).known = true) (∃ l, bP (aQ f x) = some l ∧ (∀ q ∈ l, gN rows q) ∧ l.length = (E.ty t).size ∧ aK E ops os K ⟨put f d (.ptr (d.getD 0) clk 0 0), dE rows (d.getD 0) (some ⟨clk, t, (E.ty t).size, [l]⟩), clk + 1⟩) := rfl
def oU (t : TI) (x y : PV) (K : TypeId → Nat → List PV → Int → Prop) : Prop :=
 match t, x, y with
 | .slice e n b z, .int _ x, .int _ y => aH (0 ≤ x ∧ x ≤ y ∧ y.toNat ≤ room ∧ y.toNat * b ≤ room) (K e n z x)
 | _, _, _ => False
theorem yT {t : TypeId} {l c : Operand} : aK E ops (⟨d, .makeSlice t l c, ty, pos, af, none⟩ :: os) K ⟨f, rows, clk⟩ = oU (E.ty t) (aQ f l) (aQ f c) fun e n z x => aK E ops os K ⟨put f d (.own (d.getD 0) clk 0 x.toNat), dE rows (d.getD 0) (some ⟨clk, e, n, List.replicate x.toNat z⟩), clk + 1⟩ := by
 simp only [aK, dR, oU, DW]
 generalize E.ty t = T
 generalize aQ f l = A
 generalize aQ f c = B
 cases T with
 | slice e n b z =>
  cases A with
  | int k x =>
   cases B with
   | int k2 y => simp only [aH, and_assoc]
   | _ => rfl
  | _ => rfl
 | _ => rfl
def R4 (t : TI) (rows : Rows) (x y : PV) (clk d : Nat) (K : PV → Rows → Nat → Prop) : Prop :=
 match t with
 | .slice e n b _ =>
  ∃ l, sN rows y l ∧ (∀ e ∈ l, e.length = n) ∧
  match x with
  | .nil => aH (l.length ≤ room ∧ l.length * b ≤ room) (K (.own d clk 0 l.length) (dE rows d (some ⟨clk, e, n, l⟩)) (clk + 1))
  | .own id ver off len => ∃ r, rows id = some r ∧ r.ver = ver ∧ off = 0 ∧ len = r.els.length ∧ r.e = e ∧ r.size = n ∧ aH (len + l.length ≤ room ∧ (len + l.length) * b ≤ room) (K (.own id clk 0 (len + l.length)) (dE rows id (some ⟨clk, e, n, r.els ++ l⟩)) (clk + 1))
  | .iS l0 => (∀ e ∈ l0, e.length = n) ∧ (∀ e ∈ l, ∀ p ∈ e, b5 p = true) ∧ aH (l0.length + l.length ≤ room ∧ (l0.length + l.length) * b ≤ room) (K (.sl (l0 ++ l)) rows clk)
  | _ => False
 | _ => False
theorem G5 {t t2 : TypeId} {x y : Operand} : aK E ops (⟨d, .call { callee := .builtin .append, args := ⟨[x, y]⟩, argTypes := ⟨[t, t2]⟩ }, ty, pos, af, none⟩ :: os) K ⟨f, rows, clk⟩ =
  aH (t2 = t ∨ VD (E.ty t2) = true) (R4 (E.ty t) rows (aQ f x) (aQ f y) clk (d.getD 0) fun v rows clk => aK E ops os K ⟨put f d v, rows, clk⟩) := by
 simp only [aK, dR, DX, R4, DW, aH, PS.put]
 congr 1
 generalize E.ty t = T
 generalize aQ f x = A
 cases T with
 | slice e n b z =>
  simp only
  congr 1
  funext l
  congr 2
  cases A with
  | nil => simp only [and_assoc]
  | own id ver off len => simp only [and_assoc]
  | iS l0 => simp only [and_assoc]
  | _ => rfl
 | _ => rfl
end
def sR (P : Program) (g : FuncId) (args : List PV) (K : PV → Prop) : Prop := ∃ v, aL P g args v ∧ K v
@[congr] theorem aeD {P : Program} {g : FuncId} {args G6 : List PV} {K : PV → Prop} (h : args = G6) : sR P g args K = sR P g G6 K := by rw [h]
def oV (E : Env) (p : PV) (fC : List PV) (rows : Rows) (clk : Nat) (K : PV → Rows → Nat → Prop) : Prop :=
 match p with
 | .fn g b8 => if E.writes g = true then b8 = [] ∧ vM E.P g fC rows clk K else aH ((fC.map (pz rows)).all eV = true ∧ dM rows (fC.flatMap dC)) (sR E.P g (fC.map (pz rows) ++ b8) fun v => K v (B3 rows (fC.flatMap dC)) clk)
 | _ => False
@[congr] theorem abX {E : Env} {p p' : PV} {fC vR : List PV} {rows rows' : Rows} {clk jK : Nat} {K : PV → Rows → Nat → Prop} (h1 : p = p') (h2 : fC = vR) (h3 : rows = rows') (h4 : clk = jK) : oV E p fC rows clk K = oV E p' vR rows' jK K := by rw [h1, h2, h3, h4]
@[congr] theorem aeE {P : Program} {g : FuncId} {fC vR : List PV} {rows : Rows} {clk : Nat} {K : PV → Rows → Nat → Prop} (h : fC = vR) : vM P g fC rows clk K = vM P g vR rows clk K := by rw [h]
@[congr] theorem aeF {t t' : TI} {x x' y y' : PV} {K : TypeId → Nat → List PV → Int → Prop} (h1 : t = t') (h2 : x = x') (h3 : y = y') : oU t x y K = oU t' x' y' K := by rw [h1, h2, h3]
@[congr] theorem agW {t t' : TI} {rows rows' : Rows} {x x' y y' : PV} {clk jK d d' : Nat} {K : PV → Rows → Nat → Prop} (h1 : t = t') (h2 : rows = rows') (h3 : x = x') (h4 : y = y') (h5 : clk = jK) (h6 : d = d') :
  R4 t rows x y clk d K = R4 t' rows' x' y' jK d' K := by rw [h1, h2, h3, h4, h5, h6]
section
variable {E : Env} {ops os : List Oper} {K : PS → Prop} {f : Nat → PV} {rows : Rows} {clk : Nat} {d : Option Tmp} {ty : TypeId} {pos : String} {af : Array Edge}
theorem R5 {fo : Operand} {args : Array Operand} {ts : Array TypeId} : aK E ops (⟨d, .call { callee := .value fo, args := args, argTypes := ts }, ty, pos, af, none⟩ :: os) K ⟨f, rows, clk⟩ =
  oV E (aQ f fo) (args.toList.map (aQ f)) rows clk fun v rows clk => aK E ops os K ⟨put f d v, rows, clk⟩ := by
 simp only [aK, dR, vN, oV, K5, aH, sR]
 generalize aQ f fo = A
 have e1 : (args.toList.map fun x => pz rows (aQ f x)) = (args.toList.map (aQ f)).map (pz rows) := by rw [List.map_map]; rfl
 have e2 : (args.toList.flatMap fun x => dC (aQ f x)) = (args.toList.map (aQ f)).flatMap dC := by rw [List.flatMap_map]
 rw [e1, e2]
 cases A with
 | fn g b8 =>
  have hm : agv E (.fn g b8) = E.writes g := rfl
  by_cases hw : E.writes g = true
  ·rw [hm, if_pos hw]
   cases b8 with
   | nil => simp [hw]
   | cons x l => simp [hw]
  rw [hm, if_neg hw]
  simp only [if_neg hw]
  apply propext
  constructor
  ·rintro ⟨v, ⟨h1, h2⟩, h3, h4⟩; exact ⟨⟨h1, h3⟩, v, h2, h4⟩
  ·rintro ⟨⟨h1, h3⟩, v, h2, h4⟩; exact ⟨v, ⟨h1, h2⟩, h3, h4⟩
 | _ => simp [agv]
theorem BC {g : FuncId} {b8 : Array Operand} : aK E ops (⟨d, .makeFunc (.func g) ⟨[]⟩ b8, ty, pos, af, none⟩ :: os) K ⟨f, rows, clk⟩ =
  aH (((b8.toList.map (aQ f)).map (pz rows)).all eV = true ∧ dM rows ((b8.toList.map (aQ f)).flatMap dC))
   (aK E ops os K ⟨put f d (.fn g ((b8.toList.map (aQ f)).map (pz rows))), B3 rows ((b8.toList.map (aQ f)).flatMap dC), clk⟩) := by
 simp only [aK, dR, aH, and_assoc]
 have e1 : (b8.toList.map fun x => pz rows (aQ f x)) = (b8.toList.map (aQ f)).map (pz rows) := by rw [List.map_map]; rfl
 have e2 : (b8.toList.flatMap fun x => dC (aQ f x)) = (b8.toList.map (aQ f)).flatMap dC := by rw [List.flatMap_map]
 rw [e1, e2]
def j0 (k : Nat) (l : List Nat) (t : Nat → Nat → Prop) : Nat → Nat → Prop := fun k' id => (true = true ∧ k' = k ∧ id ∈ l) ∨ t k' id
def nD (k id : Nat) (w : Nat → Nat → Prop) : Nat → Nat → Prop := fun k' iQ => (k' = k ∧ iQ = id) ∨ w k' iQ
variable {k : Nat} {bM : Nat → Nat → Prop} {aO : Nat → Nat → Prop}
theorem LS {op : Op} {j : Nat} {want : Bool} : aN E ops clk k (⟨d, op, ty, pos, af, some (j, want)⟩ :: os) K ⟨f, rows, bM, aO⟩ =
  match (ops[j]?).bind (·.dst) with
  | none => False
  | some e => stepG (f e) want (aN E ops clk k (⟨d, op, ty, pos, af, none⟩ :: os) K ⟨f, rows, bM, aO⟩) (aN E ops clk (k + 1) os K ⟨put f d (.eN []), rows, bM, aO⟩) := by
 have e3 : app k ⟨d, op, ty, pos, af, some (j, want)⟩ false (.eN []) none ⟨f, rows, bM, aO⟩ = ⟨put f d (.eN []), rows, bM, aO⟩ := by simp [app, eX, wlU]
 simp only [aN, e3]
 cases hx : (ops[j]?).bind (·.dst) with
 | none => rfl
 | some e => rfl
theorem cG {o : Oper} {R : PV → Prop} {kk : PV → Prop} {st : ST} (h : ∀ v, R v ↔ kk v) : (∃ v u, (R v ∧ u = none) ∧ RN .any ops k u bM ∧ aN E ops clk (k + 1) os K (app k o true v u st)) = aU kk fun v => aN E ops clk (k + 1) os K (app k o true v none st) := by
 apply propext; simp only [aU]
 constructor
 ·rintro ⟨v, u, ⟨h1, rfl⟩, _, h2⟩; exact ⟨v, (h v).1 h1, h2⟩
 ·rintro ⟨v, h1, h2⟩; exact ⟨v, none, ⟨(h v).2 h1, rfl⟩, trivial, h2⟩
theorem eC {op : Op} {v : PV} (h : gH op (aQ f) = []) : app k ⟨d, op, ty, pos, af, none⟩ true v none ⟨f, rows, bM, aO⟩ = ⟨put f d v, rows, bM, aO⟩ := by simp [app, eX, wlU, h]
theorem pW {op : Op} {v : PV} {l : List Nat} (h : gH op (aQ f) = l) : app k ⟨d, op, ty, pos, af, none⟩ true v none ⟨f, rows, bM, aO⟩ = ⟨put f d v, rows, j0 k l bM, aO⟩ := by subst h; rfl
theorem R6 {x : Operand} : aN E ops clk k (⟨d, .move x, ty, pos, af, none⟩ :: os) K ⟨f, rows, bM, aO⟩ = aN E ops clk (k + 1) os K ⟨put f d (aQ f x), rows, bM, aO⟩ := by
 simp only [aN, yn, gI, ys, yv]
 rw [cG (kk := fun v => v = aQ f x) (fun v => Iff.rfl), iW, eC rfl]
theorem G7 {x : Operand} : aN E ops clk k (⟨d, .assign x, ty, pos, af, none⟩ :: os) K ⟨f, rows, bM, aO⟩ = aN E ops clk (k + 1) os K ⟨put f d (aQ f x), rows, bM, aO⟩ := by
 simp only [aN, yn, gI, ys, yv]
 rw [cG (kk := fun v => v = aQ f x) (fun v => Iff.rfl), iW, eC rfl]
theorem R7 {c a b : Operand} : aN E ops clk k (⟨d, .pick c a b, ty, pos, af, none⟩ :: os) K ⟨f, rows, bM, aO⟩ = gF (aQ f c) true (aN E ops clk (k + 1) os K ⟨put f d (aQ f a), rows, bM, aO⟩) (aN E ops clk (k + 1) os K ⟨put f d (aQ f b), rows, bM, aO⟩) := by
 simp only [aN, yn, gI, ys, yv]
 rw [cG (fun v => Iff.rfl)]
 apply propext; simp only [aU, gF, eC (op := .pick c a b) rfl]
 constructor
 ·rintro ⟨v, ⟨t, h1, rfl⟩, h2⟩
  refine ⟨t, h1, fun h => ?_, fun h => ?_⟩
  ·subst h; exact h2
  ·subst h; exact h2
 ·rintro ⟨t, h1, h2, h3⟩
  cases t with
  | true => exact ⟨_, ⟨true, h1, rfl⟩, h2 rfl⟩
  | false => exact ⟨_, ⟨false, h1, rfl⟩, h3 rfl⟩
theorem WJ {op : BinOp} {t t2 : TypeId} {x y : Operand} : aN E ops clk k (⟨d, .binOp op t x y t2, ty, pos, af, none⟩ :: os) K ⟨f, rows, bM, aO⟩ = aU (fun v => DL E op t (aQ f x) (aQ f y) v) fun v => aN E ops clk (k + 1) os K ⟨put f d v, rows, bM, aO⟩ := by
 simp only [aN, yn, gI, ys, yv]; rw [cG (fun v => Iff.rfl)]; simp only [eC (op := .binOp op t x y t2) rfl]
theorem abY {op : UnOp} {t : TypeId} {x : Operand} : aN E ops clk k (⟨d, .unOp op t x, ty, pos, af, none⟩ :: os) K ⟨f, rows, bM, aO⟩ = aU (fun v => yun op (aQ f x) v) fun v => aN E ops clk (k + 1) os K ⟨put f d v, rows, bM, aO⟩ := by
 simp only [aN, yn, gI, ys, yv]; rw [cG (fun v => Iff.rfl)]; simp only [eC (op := .unOp op t x) rfl]
theorem R8 {s t : TypeId} {x : Operand} : aN E ops clk k (⟨d, .convert s t x, ty, pos, af, none⟩ :: os) K ⟨f, rows, bM, aO⟩ = aU (fun v => qT (E.ty s) (E.ty t) (aQ f x) v) fun v => aN E ops clk (k + 1) os K ⟨put f d v, rows, bM, aO⟩ := by
 simp only [aN, yn, gI, ys, yv]; rw [cG (fun v => Iff.rfl)]; simp only [eC (op := .convert s t x) rfl]
theorem D4 {i : Nat} {x : Operand} : aN E ops clk k (⟨d, .extract x i, ty, pos, af, none⟩ :: os) K ⟨f, rows, bM, aO⟩ = aU (fun v => KN i (aQ f x) v) fun v => aN E ops clk (k + 1) os K ⟨put f d v, rows, bM, aO⟩ := by
 simp only [aN, yn, gI, ys, yv]; rw [cG (fun v => Iff.rfl)]; simp only [eC (op := .extract x i) rfl]
theorem R9 {t : TypeId} {x : Operand} : aN E ops clk k (⟨d, .load t x, ty, pos, af, none⟩ :: os) K ⟨f, rows, bM, aO⟩ = aU (fun v => qR E t (dN .any ops k aO rows) (aQ f x) v) fun v => aN E ops clk (k + 1) os K ⟨put f d v, rows, j0 k (aZ (aQ f x)) bM, aO⟩ := by
 simp only [aN, yn, gI, ys, yv]; rw [cG (fun v => Iff.rfl)]; simp only [pW (op := .load t x) rfl]; rfl
theorem LU {t : TypeId} {i : Nat} {x : Operand} : aN E ops clk k (⟨d, .field t x i, ty, pos, af, none⟩ :: os) K ⟨f, rows, bM, aO⟩ = aU (fun v => rH E t i (aQ f x) v) fun v => aN E ops clk (k + 1) os K ⟨put f d v, rows, bM, aO⟩ := by
 simp only [aN, yn, gI, ys, yv]; rw [cG (fun v => Iff.rfl)]; simp only [eC (op := .field t x i) rfl]
theorem yU {t : TypeId} {i : Nat} {x : Operand} : aN E ops clk k (⟨d, .fieldAddr t x i, ty, pos, af, none⟩ :: os) K ⟨f, rows, bM, aO⟩ = aU (fun v => eH E t (dN .any ops k aO rows) i (aQ f x) v) fun v => aN E ops clk (k + 1) os K ⟨put f d v, rows, j0 k (aZ (aQ f x)) bM, aO⟩ := by
 simp only [aN, yn, gI, ys, yv]; rw [cG (fun v => Iff.rfl)]; simp only [pW (op := .fieldAddr t x i) rfl]; rfl
theorem yV {t : TypeId} {x y : Operand} : aN E ops clk k (⟨d, .indexAddr t x y, ty, pos, af, none⟩ :: os) K ⟨f, rows, bM, aO⟩ = aU (fun v => eI E t (dN .any ops k aO rows) (aQ f x) (aQ f y) v) fun v => aN E ops clk (k + 1) os K ⟨put f d v, rows, j0 k (aZ (aQ f x)) bM, aO⟩ := by
 simp only [aN, yn, gI, ys, yv]; rw [cG (fun v => Iff.rfl)]; simp only [pW (op := .indexAddr t x y) rfl]; rfl
theorem LV {t : TypeId} {x : Operand} {lo hi mx : Option Operand} : aN E ops clk k (⟨d, .slice t x lo hi mx, ty, pos, af, none⟩ :: os) K ⟨f, rows, bM, aO⟩ = aU (fun v => mC E t (dN .any ops k aO rows) (aQ f x) (lo.map (aQ f)) (hi.map (aQ f)) (mx.map (aQ f)) v) fun v => aN E ops clk (k + 1) os K ⟨put f d v, rows, j0 k (aZ (aQ f x)) bM, aO⟩ := by
 simp only [aN, yn, gI, ys, yv]; rw [cG (fun v => Iff.rfl)]; simp only [pW (op := .slice t x lo hi mx) rfl]; rfl
theorem LW {t : TypeId} {parts : Array (Nat × Operand)} : aN E ops clk k (⟨d, .build t parts, ty, pos, af, none⟩ :: os) K ⟨f, rows, bM, aO⟩ = aU (fun v => oK (E.ty t) (parts.toList.map fun x => (x.1, aQ f x.2)) v) fun v => aN E ops clk (k + 1) os K ⟨put f d v, rows, bM, aO⟩ := by
 simp only [aN, yn, gI, ys, yv]; rw [cG (fun v => Iff.rfl)]; simp only [eC (op := .build t parts) rfl]
theorem WK {t : TypeId} {x : Operand} : aN E ops clk k (⟨d, .call { callee := .builtin .len, args := ⟨[x]⟩, argTypes := ⟨[t]⟩ }, ty, pos, af, none⟩ :: os) K ⟨f, rows, bM, aO⟩ = aU (fun v => vG (E.ty t) (dN .any ops k aO rows) (aQ f x) v) fun v => aN E ops clk (k + 1) os K ⟨put f d v, rows, j0 k (aZ (aQ f x)) bM, aO⟩ := by
 simp only [aN, yn, gI, ys, yv]; rw [cG (fun v => Iff.rfl)]; simp only [pW (op := .call { callee := .builtin .len, args := ⟨[x]⟩, argTypes := ⟨[t]⟩ }) rfl]; rfl
theorem BD {x : Operand} : aN E ops clk k (⟨d, .nilCheck x, ty, pos, af, none⟩ :: os) K ⟨f, rows, bM, aO⟩ = aU (fun v => A5 (dN .any ops k aO rows) (aQ f x) v) fun v => aN E ops clk (k + 1) os K ⟨put f d v, rows, j0 k (aZ (aQ f x)) bM, aO⟩ := by
 simp only [aN, yn, gI, ys, yv]; rw [cG (fun v => Iff.rfl)]; simp only [pW (op := .nilCheck x) rfl]; rfl
theorem WL {ts : Array TypeId} {x y : Operand} : aN E ops clk k (⟨d, .call { callee := .builtin .max, args := ⟨[x, y]⟩, argTypes := ts }, ty, pos, af, none⟩ :: os) K ⟨f, rows, bM, aO⟩ = aU (fun v => KP (aQ f x) (aQ f y) v) fun v => aN E ops clk (k + 1) os K ⟨put f d v, rows, bM, aO⟩ := by
 simp only [aN, yn, gI, ys, yv]; rw [cG (fun v => Iff.rfl)]; simp only [eC (op := .call { callee := .builtin .max, args := ⟨[x, y]⟩, argTypes := ts }) rfl]
theorem WM {ts : Array TypeId} {x y : Operand} : aN E ops clk k (⟨d, .call { callee := .builtin .min, args := ⟨[x, y]⟩, argTypes := ts }, ty, pos, af, none⟩ :: os) K ⟨f, rows, bM, aO⟩ = aU (fun v => KQ (aQ f x) (aQ f y) v) fun v => aN E ops clk (k + 1) os K ⟨put f d v, rows, bM, aO⟩ := by
 simp only [aN, yn, gI, ys, yv]; rw [cG (fun v => Iff.rfl)]; simp only [eC (op := .call { callee := .builtin .min, args := ⟨[x, y]⟩, argTypes := ts }) rfl]
theorem BE {g : FuncId} {b8 : Array Operand} : aN E ops clk k (⟨d, .makeFunc (.func g) ⟨[]⟩ b8, ty, pos, af, none⟩ :: os) K ⟨f, rows, bM, aO⟩ = aH ((b8.toList.map fun x => aQ f x).all eV = true) (aN E ops clk (k + 1) os K ⟨put f d (.fn g (b8.toList.map fun x => aQ f x)), rows, bM, aO⟩) := by
 simp only [aN, yn, gI, ys, yv]
 rw [cG (fun v => Iff.rfl), iH, iW]; simp only [eC (op := .makeFunc (.func g) ⟨[]⟩ b8) rfl]
theorem wZ {t : TypeId} {len : Nat} {parts : Array (Nat × Operand)} : aN E ops clk k (⟨d, .buildSlice t len parts, ty, pos, af, none⟩ :: os) K ⟨f, rows, bM, aO⟩ = aU (fun v => K4 (E.ty t) (dN .any ops k aO rows) len (parts.toList.map fun x => (x.1, aQ f x.2)) v) fun v => aN E ops clk (k + 1) os K ⟨put f d v, rows, bM, aO⟩ := by
 simp only [aN, yn, gI, ys]; rw [cG (fun v => Iff.rfl)]; simp only [eC (op := .buildSlice t len parts) rfl]
theorem LX {t : TypeId} {p x : Operand} : aN E ops clk k (⟨none, .store t p x, ty, pos, af, none⟩ :: os) K ⟨f, rows, bM, aO⟩ =
  ∃ id r, oO E t (dN .any ops k aO rows) (aQ f p) (aQ f x) .undef (some (id, r)) ∧ yK .any ops k id bM ∧ aN E ops clk (k + 1) os K ⟨f, dE rows id (some r), j0 k (aZ (aQ f p) ++ ((bP (aQ f x)).getD []).flatMap aZ) bM, nD k id aO⟩ := by
 simp only [aN, yn, gI, ys]
 apply propext
 constructor
 ·rintro ⟨v, u, h, h1, h2⟩
  have h' := h
  obtain ⟨_, rfl, h3⟩ := h
  split at h3
  ·obtain ⟨_, _, _, _, _, _, _, _, _, _, rfl⟩ := h3
   exact ⟨_, _, h', h1, h2⟩
  ·exact h3.elim
 ·rintro ⟨id, r, h, h1, h2⟩; exact ⟨.undef, some (id, r), h, h1, h2⟩
theorem WN {o : Oper} {R : PV → Option (Nat × Row) → Prop} {C : Prop} {v0 : PV} {e : Nat} {r0 : Row} {st : ST} {jK : Nat} (h : ∀ v u, R v u ↔ (C ∧ v = v0 ∧ u = some (e, r0))) : (∃ v u, R v u ∧ RN .any ops k u bM ∧ aN E ops jK (k + 1) os K (app k o true v u st)) = aH (C ∧ yK .any ops k e bM) (aN E ops jK (k + 1) os K (app k o true v0 (some (e, r0)) st)) := by
 apply propext; simp only [aH]
 constructor
 ·rintro ⟨v, u, h1, h2, h3⟩
  obtain ⟨hc, rfl, rfl⟩ := (h v u).1 h1
  exact ⟨⟨hc, h2⟩, h3⟩
 ·rintro ⟨⟨h1, h2⟩, h3⟩; exact ⟨v0, _, (h _ _).2 ⟨h1, rfl, rfl⟩, h2, h3⟩
theorem sS {op : Op} {v : PV} {e : Nat} {r0 : Row} (h : gH op (aQ f) = []) : app k ⟨d, op, ty, pos, af, none⟩ true v (some (e, r0)) ⟨f, rows, bM, aO⟩ = ⟨put f d v, dE rows e (some r0), bM, nD k e aO⟩ := by simp only [app, eX, wlU, h, List.not_mem_nil, and_false, false_or]; rfl
theorem LY {t : TypeId} : aN E ops clk k (⟨d, .alloc t, ty, pos, af, none⟩ :: os) K ⟨f, rows, bM, aO⟩ = aH ((E.ty t).known = true ∧ yK .any ops k (d.getD 0) bM) (aN E ops (clk + 1) (k + 1) os K ⟨put f d (.ptr (d.getD 0) clk 0 0), dE rows (d.getD 0) (some ⟨clk, t, (E.ty t).size, [(E.ty t).zero]⟩), bM, nD k (d.getD 0) aO⟩) := by
 simp only [aN, yn, gI]
 rw [WN (C := (E.ty t).known = true) (v0 := .ptr (d.getD 0) clk 0 0) (e := d.getD 0) (r0 := ⟨clk, t, (E.ty t).size, [(E.ty t).zero]⟩) (fun v u => by simp), sS (op := .alloc t) rfl]
theorem WO {t : TypeId} {x : Operand} : aN E ops clk k (⟨d, .box t x, ty, pos, af, none⟩ :: os) K ⟨f, rows, bM, aO⟩ = aH ((E.ty t).known = true) (∃ l, bP (aQ f x) = some l ∧ ((∀ q ∈ l, gN (fun _ => none) q) ∧ l.length = (E.ty t).size ∧ yK .any ops k (d.getD 0) bM) ∧
  aN E ops (clk + 1) (k + 1) os K ⟨put f d (.ptr (d.getD 0) clk 0 0), dE rows (d.getD 0) (some ⟨clk, t, (E.ty t).size, [l]⟩), bM, nD k (d.getD 0) aO⟩) := by
 simp only [aN, yn, gI]
 apply propext
 constructor
 ·rintro ⟨v, u, ⟨h1, l, h2, h3, h4, rfl, rfl⟩, h5, h6⟩
  rw [sS (op := .box t x) rfl] at h6
  exact ⟨h1, l, h2, ⟨h3, h4, h5⟩, h6⟩
 ·rintro ⟨h1, l, h2, ⟨h3, h4, h5⟩, h6⟩
  refine ⟨_, _, ⟨h1, l, h2, h3, h4, rfl, rfl⟩, h5, ?_⟩
  rw [sS (op := .box t x) rfl]; exact h6
theorem yW {t : TypeId} {l c : Operand} : aN E ops clk k (⟨d, .makeSlice t l c, ty, pos, af, none⟩ :: os) K ⟨f, rows, bM, aO⟩ = oU (E.ty t) (aQ f l) (aQ f c) fun e n z x => aH (yK .any ops k (d.getD 0) bM) (aN E ops (clk + 1) (k + 1) os K ⟨put f d (.own (d.getD 0) clk 0 x.toNat), dE rows (d.getD 0) (some ⟨clk, e, n, List.replicate x.toNat z⟩), bM, nD k (d.getD 0) aO⟩) := by
 have OA : ∀ {v e' r0}, app k ⟨d, .makeSlice t l c, ty, pos, af, none⟩ true v (some (e', r0)) ⟨f, rows, bM, aO⟩ = ⟨put f d v, dE rows e' (some r0), bM, nD k e' aO⟩ := sS rfl
 simp only [aN, yn, gI, oU]
 generalize E.ty t = T
 generalize aQ f l = A
 generalize aQ f c = B
 cases T with
 | slice e n b z =>
  cases A with
  | int k1 x =>
   cases B with
   | int k2 y =>
    apply propext
    simp only [aH]
    constructor
    ·rintro ⟨v, u, ⟨h1, h2, h3, h4, rfl, rfl⟩, h5, h6⟩
     rw [OA] at h6
     exact ⟨⟨h1, h2, h3, h4⟩, h5, h6⟩
    ·rintro ⟨⟨h1, h2, h3, h4⟩, h5, h6⟩
     refine ⟨_, _, ⟨h1, h2, h3, h4, rfl, rfl⟩, h5, ?_⟩
     rw [OA]; exact h6
   | _ => simp
  | _ => simp
 | _ => simp
theorem G8 {t t2 : TypeId} {x y : Operand} : aN E ops clk k (⟨d, .call { callee := .builtin .append, args := ⟨[x, y]⟩, argTypes := ⟨[t, t2]⟩ }, ty, pos, af, none⟩ :: os) K ⟨f, rows, bM, aO⟩ =
  aH (t2 = t ∨ VD (E.ty t2) = true) (∃ v id r, oS (E.ty t) (dN .any ops k aO rows) (aQ f x) (aQ f y) clk (d.getD 0) v (some (id, r)) ∧ yK .any ops k id bM ∧
   aN E ops (clk + 1) (k + 1) os K ⟨put f d v, dE rows id (some r), j0 k (aZ (aQ f x) ++ aZ (aQ f y)) bM, nD k id aO⟩) := by
 have OA : ∀ {v e' r0}, app k ⟨d, .call { callee := .builtin .append, args := ⟨[x, y]⟩, argTypes := ⟨[t, t2]⟩ }, ty, pos, af, none⟩ true v (some (e', r0)) ⟨f, rows, bM, aO⟩ = ⟨put f d v, dE rows e' (some r0), j0 k (aZ (aQ f x) ++ aZ (aQ f y)) bM, nD k e' aO⟩ := rfl
 simp only [aN, yn, gI, aH]
 apply propext
 constructor
 ·rintro ⟨v, u, ⟨h1, h2⟩, h3, h4⟩
  refine ⟨h1, ?_⟩
  have h2' := h2
  unfold oS at h2'
  split at h2'
  ·obtain ⟨l, g1, g2, g3⟩ := h2'
   split at g3
   ·obtain ⟨_, _, rfl, rfl⟩ := g3
    exact ⟨_, _, _, h2, h3, h4⟩
   ·obtain ⟨r, _, _, _, _, _, _, _, _, rfl, rfl⟩ := g3
    exact ⟨_, _, _, h2, h3, h4⟩
   ·exact g3.elim
  ·exact h2'.elim
 ·rintro ⟨h1, v, id, r, h2, h3, h4⟩
  exact ⟨v, _, ⟨h1, h2⟩, h3, h4⟩
def nE (E : Env) (p : PV) (fC : List PV) (rows : Rows) (K : PV → Prop) : Prop :=
 match p with
 | .fn g b8 => aH ((fC.map (pz rows)).all eV = true ∧ fC.flatMap dC = []) (sR E.P g (fC.map (pz rows) ++ b8) K)
 | _ => False
@[congr] theorem abZ {E : Env} {p p' : PV} {fC vR : List PV} {rows rows' : Rows} {K : PV → Prop} (h1 : p = p') (h2 : fC = vR) (h3 : rows = rows') : nE E p fC rows K = nE E p' vR rows' K := by rw [h1, h2, h3]
theorem B8 {fo : Operand} {args : Array Operand} {ts : Array TypeId} (hfo : cW E (.call { callee := .value fo, args := args, argTypes := ts }) = false) : aN E ops clk k (⟨d, .call { callee := .value fo, args := args, argTypes := ts }, ty, pos, af, none⟩ :: os) K ⟨f, rows, bM, aO⟩ =
  nE E (aQ f fo) (args.toList.map (aQ f)) (dN .any ops k aO rows) fun v => aN E ops clk (k + 1) os K ⟨put f d v, rows, bM, aO⟩ := by
 simp only [aN]
 rw [yL hfo]
 simp only [yJ hfo, ys, vN, nE, aH, sR]
 generalize hA : aQ f fo = A
 have e1 : (args.toList.map fun x => pz (dN .any ops k aO rows) (aQ f x)) = (args.toList.map (aQ f)).map (pz (dN .any ops k aO rows)) := by rw [List.map_map]; rfl
 have e2 : (args.toList.flatMap fun x => dC (aQ f x)) = (args.toList.map (aQ f)).flatMap dC := by rw [List.flatMap_map]
 rw [e1, e2]
 have e3 : ∀ v, app k ⟨d, .call { callee := .value fo, args := args, argTypes := ts }, ty, pos, af, none⟩ true v none ⟨f, rows, bM, aO⟩ = ⟨put f d v, rows, bM, aO⟩ := fun v => eC rfl
 cases A with
 | fn g b8 =>
  apply propext
  constructor
  ·rintro ⟨v, u, ⟨rfl, ⟨h1, h2⟩, h3⟩, _, h4⟩; rw [e3] at h4; exact ⟨⟨h1, h3⟩, v, h2, h4⟩
  ·rintro ⟨⟨h1, h3⟩, v, h2, h4⟩; exact ⟨v, none, ⟨rfl, ⟨h1, h2⟩, h3⟩, trivial, by rw [e3]; exact h4⟩
 | _ => simp
theorem LZ {g : FuncId} {args : Array Operand} {ts : Array TypeId} (hw : E.writes g = true) : aN E ops clk k (⟨d, .call { callee := .value (.func g), args := args, argTypes := ts }, ty, pos, af, none⟩ :: os) K ⟨f, rows, bM, aO⟩ =
  ∃ e n els, ((args.toList.map (aQ f)).all eV = true ∧ jL E.P g (args.toList.map (aQ f)) e n els ∧ yK .any ops k (d.getD 0) bM) ∧ aN E ops (clk + 1) (k + 1) os K ⟨put f d (.own (d.getD 0) clk 0 els.length), dE rows (d.getD 0) (some ⟨clk, e, n, els⟩), bM, nD k (d.getD 0) aO⟩ := by
 have OA : ∀ {v e' r0}, app k ⟨d, .call { callee := .value (.func g), args := args, argTypes := ts }, ty, pos, af, none⟩ true v (some (e', r0)) ⟨f, rows, bM, aO⟩ = ⟨put f d v, dE rows e' (some r0), bM, nD k e' aO⟩ := sS rfl
 simp only [aN, yn, gI]
 rw [if_pos hw]
 simp only [if_pos hw]
 apply propext
 constructor
 ·rintro ⟨v, u, ⟨h1, e, n, els, h2, rfl, rfl⟩, h3, h4⟩
  rw [OA] at h4
  exact ⟨e, n, els, ⟨h1, h2, h3⟩, h4⟩
 ·rintro ⟨e, n, els, ⟨h1, h2, h3⟩, h4⟩
  refine ⟨_, _, ⟨h1, e, n, els, h2, rfl, rfl⟩, h3, ?_⟩
  rw [OA]; exact h4
@[simp] theorem alV {md : Region.Mode} {ops : List Oper} {j : Nat} {rows : Rows} : dN md ops j (fun _ _ => False) rows = rows := by
 funext id; simp [dN]
@[simp] theorem alW {md : Region.Mode} {ops : List Oper} {j k id : Nat} {w : Nat → Nat → Prop} {rows : Rows} : dN md ops j (nD k id w) rows = if nB md ops j k = true then dN md ops j w rows else dE (dN md ops j w rows) id none := by
 funext x
 unfold dN nD
 by_cases hd : nB md ops j k = true
 ·rw [if_pos hd]
  have : (∃ k', ((k' = k ∧ x = id) ∨ w k' x) ∧ nB md ops j k' = false) ↔ ∃ k', w k' x ∧ nB md ops j k' = false := by
   constructor
   ·rintro ⟨k', ⟨rfl, _⟩ | h, h2⟩
    ·rw [hd] at h2; cases h2
    ·exact ⟨k', h, h2⟩
   ·rintro ⟨k', h, h2⟩; exact ⟨k', .inr h, h2⟩
  exact (by classical exact ite_congr (propext this) (fun _ => rfl) (fun _ => rfl))
 ·rw [if_neg hd]
  have VQ : nB md ops j k = false := by simpa using hd
  simp only [dE]
  by_cases hx : x = id
  ·rw [if_pos hx, if_pos ⟨k, .inl ⟨rfl, hx⟩, VQ⟩]
  ·rw [if_neg hx]
   have : (∃ k', ((k' = k ∧ x = id) ∨ w k' x) ∧ nB md ops j k' = false) ↔ ∃ k', w k' x ∧ nB md ops j k' = false := by
    constructor
    ·rintro ⟨k', ⟨_, h⟩ | h, h2⟩
     ·exact absurd h hx
     ·exact ⟨k', h, h2⟩
    ·rintro ⟨k', h, h2⟩; exact ⟨k', .inr h, h2⟩
   exact (by classical exact ite_congr (propext this) (fun _ => rfl) (fun _ => rfl))
@[simp] theorem apu {md : Region.Mode} {ops : List Oper} {i id : Nat} : yK md ops i id (fun _ _ => False) = True := by simp [yK]
@[simp] theorem apv {md : Region.Mode} {ops : List Oper} {i id k : Nat} {l : List Nat} {t : Nat → Nat → Prop} : yK md ops i id (j0 k l t) = ((id ∈ l → nB md ops i k = true) ∧ yK md ops i id t) := by
 apply propext
 unfold yK j0
 constructor
 ·intro h; exact ⟨fun hi => h k (.inl ⟨rfl, rfl, hi⟩), fun k' hk => h k' (.inr hk)⟩
 ·rintro ⟨h1, h2⟩ k' (⟨_, rfl, h⟩ | h)
  ·exact h1 h
  ·exact h2 k' h
end
end Pm
