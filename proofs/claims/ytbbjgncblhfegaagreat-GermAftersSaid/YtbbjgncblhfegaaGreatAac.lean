import Derived.StillTail
import Derived.Deep.LoopGhost
import Derived.Test.YtbbjgncblhfegaaGreatAab
set_option linter.unusedSimpArgs false
set_option linter.unusedVariables false
namespace Pm
open Go Go.RowKit
def gG (P : Program) (f : FuncId) (args : List PV) (e : TypeId) (n : Nat) (els : List (List PV)) : Prop :=
 (∃ fn c, P.funcs[f]? = some fn ∧ fn.body = some c ∧ (fn.name == "runtime.NumGoroutine") = false) ∧
 ∀ (w : World) (S : c9) (vs : List Value), (∀ b o, S b o → b < w.heap.size) → bI S w args vs →
  Calls P f vs.toArray w fun x w' => ∃ (v : Value) (xs : List Value) (S' : c9), x = .returned v ∧ Below w.heap.size w w' ∧ (∀ b o, S b o → S' b o) ∧ (∀ b o, S' b o → S b o ∨ (w.heap.size ≤ b ∧ b < w'.heap.size)) ∧
   w'.ownsRow w.heap.size e n v els.length xs ∧ a7 (cJ S' w') els.flatten xs ∧ (∀ y ∈ xs, y.oneCell' = true) ∧ (∀ x ∈ els, x.length = n) ∧ 0 < n ∧ (∀ g o, v.ownBlock = some g → ¬ S' g o)
def SX (md : Region.Mode) (ops : List Oper) (j k : Nat) : Bool :=
 match ops[j]? with
 | some o => o.after.toList.any fun e => Region.binds md e && e.on == k
 | none => false
def nQ (md : Region.Mode) (ops : List Oper) (j k : Nat) : Bool := SX md ops j k || (List.range ops.length).any fun h => SX md ops j h && SX md ops h k
structure ST where
 f : Nat → PV
 rows : Rows
 bL : Nat → Nat → Prop
 wl : Nat → Nat → Prop
def cT (E : Env) : Op → Bool
 | .alloc _ => true
 | .box _ _ => true
 | .makeSlice _ _ _ => true
 | .call { callee := .builtin .append, args := ⟨[_, _]⟩, argTypes := ⟨[_, _]⟩ } => true
 | .call { callee := .value (.func g), args := _, argTypes := _ } => E.writes g
 | _ => false
def r5 (E : Env) (ops : List Oper) : Bool := ops.all fun o => !cT E o.op || (o.dst.isSome && o.guard.isNone)
def rk (E : Env) (ops : List Oper) (i : Nat) : Nat := ((ops.take i).filter fun o => cT E o.op).length
theorem PO {E : Env} {ops : List Oper} {i : Nat} {o : Oper} (h : ops[i]? = some o) : rk E ops (i + 1) = rk E ops i + if cT E o.op = true then 1 else 0 := by
 unfold rk
 rw [List.take_add_one, h]
 simp only [Option.toList_some, List.filter_append, List.length_append]
 congr 1
 cases hn : cT E o.op <;> simp [hn]
theorem acw {E : Env} {ops : List Oper} {i j : Nat} (h : i ≤ j) : rk E ops i ≤ rk E ops j := by
 unfold rk
 have : (ops.take i).Sublist (ops.take j) := by
  have := List.take_sublist i (ops.take j)
  rwa [List.take_take, Nat.min_eq_left h] at this
 exact (this.filter _).length_le
theorem WV {E : Env} {ops : List Oper} {i j : Nat} {o : Oper} (h : ops[i]? = some o) (hn : cT E o.op = true) (hij : i < j) : rk E ops i < rk E ops j := by
 have h1 := PO (E := E) h
 rw [if_pos hn] at h1
 have := acw (E := E) (ops := ops) (show i + 1 ≤ j from hij)
 omega
theorem ahv {E : Env} {ops : List Oper} {i j : Nat} {o o' : Oper} (h : ops[i]? = some o) (hn : cT E o.op = true) (h' : ops[j]? = some o') (uP : cT E o'.op = true) (he : rk E ops i = rk E ops j) : i = j := by
 rcases Nat.lt_trichotomy i j with h1 | h1 | h1
 ·have := WV h hn h1; omega
 ·exact h1
 ·have := WV h' uP h1; omega
def pE (t : TI) (rows : Rows) (x y : PV) (c0 d : Nat) (v : PV) (u : Option (Nat × Row)) : Prop :=
 match t with
 | .slice e n b _ => ∃ l, s5 rows y l ∧ (∀ e ∈ l, e.length = n) ∧
  match x with
  | .nil => l.length ≤ room ∧ l.length * b ≤ room ∧ v = .own d c0 0 l.length ∧ u = some (d, ⟨c0, e, n, l⟩)
  | .own id ver off len => ∃ r, rows id = some r ∧ r.ver = ver ∧ off = 0 ∧ len = r.els.length ∧ r.e = e ∧ r.size = n ∧ len + l.length ≤ room ∧ (len + l.length) * b ≤ room ∧
    v = .own id c0 0 (len + l.length) ∧ u = some (id, ⟨c0, e, n, r.els ++ l⟩)
  | _ => False
 | _ => False
def afi (E : Env) (g : FuncId) (args : List PV) (c0 d : Nat) (v : PV) (u : Option (Nat × Row)) : Prop :=
 args.all eY = true ∧ ∃ e n els, gG E.P g args e n els ∧ v = .own d c0 0 els.length ∧ u = some (d, ⟨c0, e, n, els⟩)
def yn (E : Env) (c0 : Nat) (d : Option Tmp) (op : Op) (ρ : Operand → PV) (rows : Rows) (v : PV) (u : Option (Nat × Row)) : Prop :=
 match op with
 | .alloc t => (E.ty t).known = true ∧ v = .ptr (d.getD 0) c0 0 0 ∧ u = some (d.getD 0, ⟨c0, t, (E.ty t).size, [(E.ty t).zero]⟩)
 | .box t x => (E.ty t).known = true ∧ ∃ l, bO (ρ x) = some l ∧ (∀ q ∈ l, gW (fun _ => none) q) ∧ l.length = (E.ty t).size ∧ v = .ptr (d.getD 0) c0 0 0 ∧ u = some (d.getD 0, ⟨c0, t, (E.ty t).size, [l]⟩)
 | .makeSlice t l c =>
  match E.ty t, ρ l, ρ c with
  | .slice e n b z, .int _ x, .int _ y => 0 ≤ x ∧ x ≤ y ∧ y.toNat ≤ room ∧ y.toNat * b ≤ room ∧ v = .own (d.getD 0) c0 0 x.toNat ∧ u = some (d.getD 0, ⟨c0, e, n, List.replicate x.toNat z⟩)
  | _, _, _ => False
 | .call { callee := .builtin .append, args := ⟨[x, y]⟩, argTypes := ⟨[t, t2]⟩ } => (t2 = t ∨ WN (E.ty t2) = true) ∧ pE (E.ty t) rows (ρ x) (ρ y) c0 (d.getD 0) v u
 | .call { callee := .value (.func g), args := aA1, argTypes := ts } => if E.writes g = true then afi E g (aA1.toList.map fun x => ρ x) c0 (d.getD 0) v u else ys E (.call { callee := .value (.func g), args := aA1, argTypes := ts }) ρ rows v u
 | op => ys E op ρ rows v u
theorem yP {E : Env} {c0 : Nat} {d : Option Tmp} {op : Op} {ρ : Operand → PV} {rows : Rows} {v : PV} {u : Option (Nat × Row)} (h : cT E op = false) : yn E c0 d op ρ rows v u = ys E op ρ rows v u := by
 unfold yn
 split
 all_goals first
  | rfl
  | (simp [cT] at h; done)
  | (simp only [cT] at h; rw [if_neg (by rw [h]; decide)])
theorem lY {E : Env} {op : Op} {C : Prop} (h : cT E op = true) (h1 : ∀ t, op = .alloc t → C) (h2 : ∀ t x, op = .box t x → C) (h3 : ∀ t l c, op = .makeSlice t l c → C)
  (h4 : ∀ x y t t2, op = .call { callee := .builtin .append, args := ⟨[x, y]⟩, argTypes := ⟨[t, t2]⟩ } → C) (h5 : ∀ g aA1 ts, op = .call { callee := .value (.func g), args := aA1, argTypes := ts } → E.writes g = true → C) : C := by
 unfold cT at h
 split at h
 ·exact h1 _ rfl
 ·exact h2 _ _ rfl
 ·exact h3 _ _ _ rfl
 ·exact h4 _ _ _ _ rfl
 ·exact h5 _ _ _ rfl h
 ·cases h
theorem acx {rows rows' : Rows} {y : PV} {l : List (List PV)} (h : i4 (aZ y) rows rows') (hy : s5 rows y l) : s5 rows' y l ∧ ∀ id ∈ aZ y, ∃ r, rows id = some r := by
 unfold s5 at *
 cases y with
 | own id ver off len =>
  obtain ⟨r, hr, hh⟩ := hy
  exact ⟨⟨r, h id (by simp [aZ]) r hr, hh⟩, by simp [aZ]; exact ⟨r, hr⟩⟩
 | nil => exact ⟨hy, by simp [aZ]⟩
 | sl l => exact ⟨hy, by simp [aZ]⟩
 | iZ l => exact ⟨hy, by simp [aZ]⟩
 | _ => exact hy.elim
theorem WW {t : TI} {rows rows' : Rows} {x y v : PV} {c0 d : Nat} {u : Option (Nat × Row)} (h : i4 (aZ x ++ aZ y) rows rows') (hy : pE t rows x y c0 d v u) : pE t rows' x y c0 d v u ∧ ∀ id ∈ aZ x ++ aZ y, ∃ r, rows id = some r := by
 unfold pE at *
 cases t with
 | slice e n b z =>
  obtain ⟨l, h1, h2, h3⟩ := hy
  obtain ⟨g1, g2⟩ := acx (fun id gL => h id (by simp only [List.mem_append]; exact .inr gL)) h1
  cases x with
  | nil => exact ⟨⟨l, g1, h2, h3⟩, fun id gL => g2 id (by simpa [aZ] using gL)⟩
  | own id ver off len =>
   obtain ⟨r, hr, hh⟩ := h3
   refine ⟨⟨l, g1, h2, r, h id (by simp [aZ]) r hr, hh⟩, fun iW gL => ?_⟩
   simp only [aZ, List.mem_append, List.mem_cons, List.not_mem_nil, or_false] at gL
   rcases gL with rfl | gL
   ·exact ⟨r, hr⟩
   ·exact g2 iW gL
  | _ => exact h3.elim
 | _ => exact hy.elim
theorem PQ {E : Env} {c0 : Nat} {d : Option Tmp} {op : Op} {ρ : Operand → PV} {rows rows' : Rows} {v : PV} {u : Option (Nat × Row)} (h : i4 (gP op ρ) rows rows') (hy : yn E c0 d op ρ rows v u) :
  yn E c0 d op ρ rows' v u ∧ (∀ id ∈ gP op ρ, ∃ r, rows id = some r) ∧ ∀ id r, u = some (id, r) → (cT E op = true ∧ id = d.getD 0) ∨ id ∈ gP op ρ := by
 cases hn : cT E op with
 | false =>
  rw [yP hn] at hy ⊢
  obtain ⟨h1, h2, h3⟩ := afh h hy
  exact ⟨h1, h2, fun id r hu => .inr (h3 id r hu)⟩
 | true =>
  refine lY hn ?_ ?_ ?_ ?_ ?_
  ·rintro t rfl
   refine ⟨hy, by simp [gP], fun id r hu => .inl ⟨by first | trivial | rfl, ?_⟩⟩
   obtain ⟨_, _, rfl⟩ := hy
   simp at hu; exact hu.1.symm
  ·rintro t x rfl
   refine ⟨hy, by simp [gP], fun id r hu => .inl ⟨by first | trivial | rfl, ?_⟩⟩
   obtain ⟨_, _, _, _, _, _, rfl⟩ := hy
   simp at hu; exact hu.1.symm
  ·rintro t l c rfl
   refine ⟨hy, by simp [gP], fun id r hu => .inl ⟨by first | trivial | rfl, ?_⟩⟩
   simp only [yn] at hy
   split at hy
   ·obtain ⟨_, _, _, _, _, rfl⟩ := hy
    simp at hu; exact hu.1.symm
   ·exact hy.elim
  ·rintro x y t t2 rfl
   simp only [yn, gP] at hy h ⊢
   obtain ⟨h2, h3⟩ := hy
   obtain ⟨g1, g2⟩ := WW h h3
   refine ⟨⟨h2, g1⟩, g2, fun id r hu => ?_⟩
   unfold pE at h3
   split at h3
   ·obtain ⟨l, _, _, h3⟩ := h3
    split at h3
    ·obtain ⟨_, _, _, rfl⟩ := h3
     simp at hu; exact .inl ⟨by first | trivial | rfl, hu.1.symm⟩
    ·rename_i hx
     obtain ⟨_, _, _, _, _, _, _, _, _, _, rfl⟩ := h3
     simp at hu
     rw [hx]
     exact .inr (by simp [aZ, hu.1])
    ·exact h3.elim
   ·exact h3.elim
  ·rintro g aA1 ts rfl hw
   simp only [yn] at hy ⊢
   rw [if_pos hw] at hy
   rw [if_pos hw]
   refine ⟨hy, by simp [gP], fun id r hu => .inl ⟨by first | trivial | exact hw, ?_⟩⟩
   obtain ⟨_, _, _, _, _, _, rfl⟩ := hy
   simp at hu; exact hu.1.symm
open Classical in
noncomputable def dN (md : Region.Mode) (ops : List Oper) (j : Nat) (wl : Nat → Nat → Prop) (rows : Rows) : Rows := fun id => if ∃ k, wl k id ∧ nQ md ops j k = false then none else rows id
theorem jU {md : Region.Mode} {ops : List Oper} {j id : Nat} {wl : Nat → Nat → Prop} {rows : Rows} {r : Row} : dN md ops j wl rows id = some r ↔ (∀ k, wl k id → nQ md ops j k = true) ∧ rows id = some r := by
 unfold dN
 split
 ·rename_i h
  obtain ⟨k, h1, h2⟩ := h
  simp only [reduceCtorEq, false_iff, not_and]
  intro h3
  rw [h3 k h1] at h2; cases h2
 ·rename_i h
  refine ⟨fun h2 => ⟨fun k hk => ?_, h2⟩, fun h2 => h2.2⟩
  cases hd : nQ md ops j k with
  | true => rfl
  | false => exact absurd ⟨k, hk, hd⟩ h
def yQ (md : Region.Mode) (ops : List Oper) (i id : Nat) (bL : Nat → Nat → Prop) : Prop := ∀ k, bL k id → nQ md ops i k = true
def SY (md : Region.Mode) (ops : List Oper) (i : Nat) (u : Option (Nat × Row)) (bL : Nat → Nat → Prop) : Prop :=
 match u with
 | none => True
 | some (id, _) => yQ md ops i id bL
def gOK (ops : Array Oper) (o : Oper) (f : Nat → PV) (b : Bool) : Prop :=
 match o.guard with
 | none => b = true
 | some (j, want) => ∃ d, (ops[j]?).bind (·.dst) = some d ∧ ((f d = .bool want ∧ b = true) ∨ ((f d = .bool (!want) ∨ f d = .eP []) ∧ b = false))
def YG (E : Env) (md : Region.Mode) (ops : Array Oper) (c0 : Nat) (i : Nat) (o : Oper) (b : Bool) (v : PV) (u : Option (Nat × Row)) (st : ST) : Prop :=
 gOK ops o st.f b ∧ if b = true then yn E (c0 + rk E ops.toList i) o.dst o.op (aR st.f) (dN md ops.toList i st.wl st.rows) v u else v = .eP [] ∧ u = none
def wlU (i : Nat) (u : Option (Nat × Row)) (wl : Nat → Nat → Prop) : Nat → Nat → Prop :=
 match u with
 | none => wl
 | some (id, _) => fun k iW => (k = i ∧ iW = id) ∨ wl k iW
def app (i : Nat) (o : Oper) (b : Bool) (v : PV) (u : Option (Nat × Row)) (st : ST) : ST :=
 { f := put st.f o.dst v, rows := fE st.rows u, bL := fun k id => (b = true ∧ k = i ∧ id ∈ gP o.op (aR st.f)) ∨ st.bL k id, wl := wlU i u st.wl }
def gQ (E : Env) (op : Op) (clk : Nat) : Nat :=
 match op with
 | .alloc _ => clk + 1
 | .box _ _ => clk + 1
 | .makeSlice _ _ _ => clk + 1
 | .call { callee := .builtin .append, args := ⟨[_, _]⟩, argTypes := ⟨[_, _]⟩ } => clk + 1
 | .call { callee := .value (.func g), args := _, argTypes := _ } => if E.writes g = true then clk + 1 else clk
 | _ => clk
theorem yR {E : Env} {op : Op} {clk : Nat} (h : cT E op = false) : gQ E op clk = clk := by
 unfold gQ
 split
 all_goals first
  | rfl
  | (simp [cT] at h; done)
  | (simp only [cT] at h; rw [if_neg (by rw [h]; decide)])
theorem WX {E : Env} {op : Op} {clk : Nat} (h : cT E op = true) : gQ E op clk = clk + 1 := by
 refine lY h ?_ ?_ ?_ ?_ ?_
 ·rintro t rfl; rfl
 ·rintro t x rfl; rfl
 ·rintro t l c rfl; rfl
 ·rintro x y t t2 rfl; rfl
 ·rintro g aA1 ts rfl hw; simp only [gQ]; rw [if_pos hw]
theorem acz {E : Env} {ops : List Oper} {i c0 : Nat} {o : Oper} (h : ops[i]? = some o) : gQ E o.op (c0 + rk E ops i) = c0 + rk E ops (i + 1) := by
 rw [PO h]
 cases hn : cT E o.op with
 | false => rw [yR hn]; simp
 | true => rw [WX hn]; simp; omega
def WY (E : Env) (md : Region.Mode) (ops : Array Oper) (c0 : Nat) (i : Nat) (K : ST → Prop) (st : ST) : Prop :=
 match ops[i]? with
 | none => K st
 | some o => ∃ b v u, YG E md ops c0 i o b v u st ∧ SY md ops.toList i u st.bL ∧ K (app i o b v u st)
section
variable {E : Env} {ops : Array Oper} {md : Region.Mode}
theorem WZ {c0 i : Nat} {K K' : ST → Prop} {st : ST} (h : ∀ st, K st → K' st) (hh : WY E md ops c0 i K st) : WY E md ops c0 i K' st := by
 unfold WY at *
 split
 ·exact h _ (by simpa [*] using hh)
 ·rename_i o ho
  simp only [ho] at hh
  obtain ⟨b, v, u, h1, h2, h3⟩ := hh
  exact ⟨b, v, u, h1, h2, h _ h3⟩
theorem PR {f : Nat → PV} {d : Option Tmp} {v : PV} {x : Operand} (h : ∀ t, d = some t → x ≠ .tmp t) : aR (put f d v) x = aR f x := by
 cases d with
 | none => rfl
 | some t =>
  cases x with
  | tmp s =>
   have : s ≠ t := fun e => h t rfl (by rw [e])
   simp [aR, put, this]
  | _ => rfl
theorem W1 {op : Op} {ρ ρ' : Operand → PV} {rows : Rows} {v : PV} {u : Option (Nat × Row)} (h : ∀ x ∈ op.operands, ρ x = ρ' x) : ys E op ρ rows v u ↔ ys E op ρ' rows v u := by
 have parts : ∀ ps : Array (Nat × Operand), (∀ x ∈ (ps.toList.map (·.2)).toArray, ρ x = ρ' x) → (ps.toList.map fun x => (x.1, ρ x.2)) = ps.toList.map fun x => (x.1, ρ' x.2) := fun ps hp =>
  List.map_congr_left fun p hm => by rw [hp p.2 (by simp; exact ⟨p.1, by simpa using hm⟩)]
 have args : ∀ (c : Call), (∀ x ∈ c.operands, ρ x = ρ' x) → ∀ x ∈ c.args.toList, ρ x = ρ' x := fun c hc x hx => hc x (by simp [Call.operands]; exact .inr (by simpa using hx))
 unfold ys
 split
 ·rename_i t p x
  rw [h p (by simp [Op.operands]), h x (by simp [Op.operands])]
 ·rename_i t len ps
  rw [parts ps (by simpa [Op.operands] using h)]
 ·rename_i f aA1 ts
  have ha := args _ (by simpa [Op.operands] using h)
  simp only at ha
  rw [h f (by simp [Op.operands, Call.operands]), List.map_congr_left (g := fun x => pz rows (ρ' x)) fun x hx => by rw [ha x hx]]
  have : (aA1.toList.flatMap fun x => dA (ρ x)) = aA1.toList.flatMap fun x => dA (ρ' x) := by
   rw [List.flatMap_def, List.flatMap_def]
   congr 1
   exact List.map_congr_left fun x hx => by rw [ha x hx]
  rw [this]
 ·suffices hs : yv E op ρ rows v ↔ yv E op ρ' rows v by rw [hs]
  unfold yv
  split
  case h_12 =>
   rename_i t x lo hi mx _ _ _
   have o1 : ∀ y : Option Operand, (∀ z, y = some z → ρ z = ρ' z) → y.map ρ = y.map ρ' := by
    intro y hy; cases y with
    | none => rfl
    | some z => simp [hy z rfl]
   rw [h x (by simp [Op.operands]), o1 lo fun z hz => h z (by subst hz; simp [Op.operands]), o1 hi fun z hz => h z (by subst hz; simp [Op.operands]), o1 mx fun z hz => h z (by subst hz; simp [Op.operands])]
  case h_13 => rename_i t ps _ _ _; rw [parts ps (by simpa [Op.operands] using h)]
  case h_15 =>
   rename_i f bR _ _ _
   rw [List.map_congr_left (l := bR.toList) (f := fun x => ρ x) (g := fun x => ρ' x) fun x hx => h x (by simp [Op.operands]; simpa using hx)]
  all_goals first
   | rfl
   | (simp only [Op.operands, Call.operands] at h; simp [h])
theorem yS {op : Op} {ρ ρ' : Operand → PV} (h : ∀ x ∈ op.operands, ρ x = ρ' x) : gP op ρ = gP op ρ' := by
 unfold gP
 split
 all_goals first
  | rfl
  | (simp only [Op.operands, Call.operands] at h; simp [h])
theorem HH {c0 : Nat} {d : Option Tmp} {op : Op} {ρ ρ' : Operand → PV} {rows : Rows} {v : PV} {u : Option (Nat × Row)} (h : ∀ x ∈ op.operands, ρ x = ρ' x) : yn E c0 d op ρ rows v u ↔ yn E c0 d op ρ' rows v u := by
 cases hn : cT E op with
 | false => rw [yP hn, yP hn]; exact W1 h
 | true =>
  refine lY hn ?_ ?_ ?_ ?_ ?_
  ·rintro t rfl; exact Iff.rfl
  ·rintro t x rfl
   simp only [yn]
   rw [h x (by simp [Op.operands])]
  ·rintro t l c rfl
   simp only [yn]
   rw [h l (by simp [Op.operands]), h c (by simp [Op.operands])]
  ·rintro x y t t2 rfl
   simp only [yn]
   rw [h x (by simp [Op.operands, Call.operands]), h y (by simp [Op.operands, Call.operands])]
  ·rintro g aA1 ts rfl hw
   simp only [yn]
   rw [if_pos hw, if_pos hw, List.map_congr_left (l := aA1.toList) (f := fun x => ρ x) (g := fun x => ρ' x) fun x hx => h x (by simp [Op.operands, Call.operands]; exact .inr (by simpa using hx))]
theorem HI {o : Oper} {d : Tmp} {x : Operand} (h : d ∉ o.looksAt ops) (hx : x ∈ o.op.operands) : x ≠ .tmp d := by
 rintro rfl
 exact h (List.mem_append_left _ (List.mem_filterMap.2 ⟨.tmp d, by simpa using hx, rfl⟩))
theorem L8 {c : Cx} : aK c (.eP []) undef := by
 show cJ c.S c.w (.eP []) undef
 simp only [cJ]
 exact ⟨[], rfl, rfl⟩
theorem gH {c : Cx} {tmps : Array Value} {j : Nat} {d : Tmp} {t : Bool} (h1 : (ops[j]?).bind (·.dst) = some d) (h : aK c (.bool t) (tmps.getD d undef)) : yielded ops tmps j = some t := by
 rw [cW] at h
 unfold yielded
 rw [h1]
 simp only [Option.bind_some]
 cases hx : tmps[d]? with
 | none => simp [hx] at h; cases h
 | some y =>
  have hy : y = .bool t := by simpa [hx] using h
  rw [hy]
theorem r6 {c : Cx} {tmps : Array Value} {j : Nat} {d : Tmp} (h1 : (ops[j]?).bind (·.dst) = some d) (h : aK c (.eP []) (tmps.getD d undef)) : yielded ops tmps j = none := by
 have h2 : tmps.getD d undef = .tuple #[] := by
  have h3 : cJ c.S c.w (.eP []) (tmps.getD d undef) := h
  simp only [cJ] at h3
  obtain ⟨vs, h4, h5⟩ := h3
  simp only [bI] at h5
  rw [h4, h5]
 unfold yielded
 rw [h1]
 simp only [Option.bind_some]
 cases hx : tmps[d]? with
 | none => rfl
 | some y =>
  have hy : y = .tuple #[] := by simpa [hx] using h2
  rw [hy]
theorem PT {o : Oper} {f : Nat → PV} {dd : Option Tmp} {v : PV} {b : Bool} (h : ∀ d, dd = some d → d ∉ o.looksAt ops) : gOK ops o (put f dd v) b ↔ gOK ops o f b := by
 unfold gOK
 cases hg : o.guard with
 | none => rfl
 | some g =>
  obtain ⟨j, want⟩ := g
  simp only
  have key : ∀ d, (ops[j]?).bind (·.dst) = some d → put f dd v d = f d := by
   intro d h1
   cases dd with
   | none => rfl
   | some e =>
    have qG : d ≠ e := by
     rintro rfl
     exact h d rfl (List.mem_append_right _ (by simp [hg, h1]))
    simp [put, qG]
  constructor
  ·rintro ⟨d, h1, h2⟩
   rw [key d h1] at h2
   exact ⟨d, h1, h2⟩
  ·rintro ⟨d, h1, h2⟩
   rw [← key d h1] at h2
   exact ⟨d, h1, h2⟩
theorem put_comm {f : Nat → PV} {x y : Option Tmp} {v u : PV} (h : ∀ d, x = some d → y ≠ some d) : put (put f x v) y u = put (put f y u) x v := by
 cases x with
 | none => rfl
 | some d =>
  cases y with
  | none => rfl
  | some e =>
   have qG : d ≠ e := fun he => h d rfl (by rw [he])
   funext j
   simp only [put]
   split <;> split <;> simp_all
theorem yT {rows : Rows} {u : Option (Nat × Row)} {j : Nat} (h : ∀ r, u ≠ some (j, r)) : fE rows u j = rows j := by
 cases u with
 | none => rfl
 | some x =>
  obtain ⟨i, r⟩ := x
  simp only [fE, dE]
  rw [if_neg]
  rintro rfl
  exact h r rfl
theorem nR {i : Nat} {u : Option (Nat × Row)} {wl : Nat → Nat → Prop} {k id : Nat} : wlU i u wl k id ↔ (k = i ∧ ∃ r, u = some (id, r)) ∨ wl k id := by
 cases u with
 | none => simp [wlU]
 | some x =>
  obtain ⟨iW, r⟩ := x
  simp only [wlU, Option.some.injEq, Prod.mk.injEq]
  constructor
  ·rintro (⟨h1, h2⟩ | h)
   ·exact .inl ⟨h1, r, h2.symm, rfl⟩
   ·exact .inr h
  ·rintro (⟨h1, r', h2, _⟩ | h)
   ·exact .inl ⟨h1, h2.symm⟩
   ·exact .inr h
theorem ER {i : Nat} {u : Option (Nat × Row)} {bL : Nat → Nat → Prop} : SY md ops.toList i u bL ↔ ∀ id r, u = some (id, r) → ∀ k, bL k id → nQ md ops.toList i k = true := by
 cases u with
 | none => simp [SY]
 | some x =>
  obtain ⟨iW, r⟩ := x
  simp only [SY, yQ, Option.some.injEq, Prod.mk.injEq]
  constructor
  ·rintro h _ _ ⟨rfl, _⟩; exact h
  ·intro h; exact h _ _ ⟨rfl, rfl⟩
theorem acA {c0 i j : Nat} {oi oj : Oper} {bi : Bool} {vi : PV} {ui : Option (Nat × Row)} (hj : ops[j]? = some oj) (WH : oi.apart ops oj = true) (hds : cT E oi.op = true → oi.dst.isSome = true) (aso : cT E oj.op = true → oj.dst.isSome = true) (hdj : nQ md ops.toList j i = false) {K : ST → Prop} {st : ST}
  (hy : YG E md ops c0 i oi bi vi ui st) (ho : SY md ops.toList i ui st.bL) (h : WY E md ops c0 j K (app i oi bi vi ui st)) :
  WY E md ops c0 j (fun PU => YG E md ops c0 i oi bi vi ui PU ∧ SY md ops.toList i ui PU.bL ∧ K (app i oi bi vi ui PU)) st := by
 obtain ⟨h1, h2, h3⟩ := Oper.apart_spec WH
 unfold WY at h ⊢
 simp only [hj] at h ⊢
 obtain ⟨bj, vj, uj, ⟨hgj, hyj⟩, hoj, hK⟩ := h
 obtain ⟨hgi, SZ⟩ := hy
 rw [ER] at hoj ho
 have ej : ∀ x ∈ oj.op.operands, aR (put st.f oi.dst vi) x = aR st.f x := fun x hx => PR fun t ht => HI (h1 t ht) hx
 have ei : ∀ x ∈ oi.op.operands, aR (put st.f oj.dst vj) x = aR st.f x := fun x hx => PR fun t ht => HI (h3 t ht) hx
 have asp : gOK ops oj st.f bj := (PT h1).1 hgj
 have hnw : ∀ id r, dN md ops.toList j (app i oi bi vi ui st).wl (app i oi bi vi ui st).rows id = some r → ∀ r', ui ≠ some (id, r') := by
  intro id r hr r' hu
  obtain ⟨hw, _⟩ := jU.1 hr
  have := hw i (nR.2 (.inl ⟨rfl, r', hu⟩))
  rw [hdj] at this; cases this
 have hle : ∀ ids, i4 ids (dN md ops.toList j (app i oi bi vi ui st).wl (app i oi bi vi ui st).rows) (dN md ops.toList j st.wl st.rows) := by
  intro ids id _ r hr
  have hn := hnw id r hr
  obtain ⟨hw, jP⟩ := jU.1 hr
  simp only [app] at jP hw
  rw [yT hn] at jP
  exact jU.2 ⟨fun k hk => hw k (nR.2 (.inr hk)), jP⟩
 have asq : (if bj = true then yn E (c0 + rk E ops.toList j) oj.dst oj.op (aR st.f) (dN md ops.toList j st.wl st.rows) vj uj else vj = .eP [] ∧ uj = none) ∧
   (bj = true → ∀ id ∈ gP oj.op (aR st.f), ∃ r, dN md ops.toList j (app i oi bi vi ui st).wl (app i oi bi vi ui st).rows id = some r) ∧ (∀ id r, uj = some (id, r) → bj = true ∧ ((cT E oj.op = true ∧ id = oj.dst.getD 0) ∨ id ∈ gP oj.op (aR st.f))) := by
  by_cases hb : bj = true
  ·rw [if_pos hb] at hyj ⊢
   have acB := (HH ej).1 hyj
   obtain ⟨g1, g2, g3⟩ := PQ (hle _) acB
   exact ⟨g1, fun _ => g2, fun id r hu => ⟨hb, g3 id r hu⟩⟩
  ·rw [if_neg hb] at hyj ⊢
   exact ⟨hyj, fun h => absurd h hb, fun id r hu => by rw [hyj.2] at hu; cases hu⟩
 obtain ⟨asr, acB, ass⟩ := asq
 have ast : SY md ops.toList j uj st.bL := ER.2 fun id r hu k hk => hoj id r hu k (.inr hk)
 have hfi : ∀ id r, uj = some (id, r) → ¬ (bi = true ∧ id ∈ gP oi.op (aR st.f)) := by
  intro id r hu hh
  have := hoj id r hu i (.inl ⟨hh.1, rfl, hh.2⟩)
  rw [hdj] at this; cases this
 have hui : ∀ id r, ui = some (id, r) → bi = true ∧ ((cT E oi.op = true ∧ id = oi.dst.getD 0) ∨ id ∈ gP oi.op (aR st.f)) := by
  intro id r hu
  by_cases hb : bi = true
  ·rw [if_pos hb] at SZ
   exact ⟨hb, (PQ (rows' := dN md ops.toList i st.wl st.rows) (fun id _ r hr => hr) SZ).2.2 id r hu⟩
  ·rw [if_neg hb] at SZ
   rw [SZ.2] at hu; cases hu
 have qG : ∀ id r r', ui = some (id, r) → uj = some (id, r') → False := by
  intro id r r' hu1 hu2
  obtain ⟨hb, hh⟩ := ass id r' hu2
  rcases hh with hh | hh
  ·obtain ⟨EM, hh1⟩ := hui id r hu1
   rcases hh1 with hh1 | hh1
   ·obtain ⟨d, hd⟩ := Option.isSome_iff_exists.1 (hds hh1.1)
    have e1 : id = d := by rw [hh1.2, hd]; rfl
    cases ahz : oj.dst with
    | none => exact absurd ahz (fun he => by have := aso hh.1; rw [he] at this; cases this)
    | some d' =>
     have e2 : id = d' := by rw [hh.2, ahz]; rfl
     exact h2 d hd (by rw [ahz, ← e2, e1])
   ·exact hfi id r' hu2 ⟨EM, hh1⟩
  ·obtain ⟨r'', asu⟩ := acB hb id hh
   exact hnw id r'' asu r hu1
 have asv : bi = true → i4 (gP oi.op (aR st.f)) (dN md ops.toList i st.wl st.rows) (dN md ops.toList i (app j oj bj vj uj st).wl (app j oj bj vj uj st).rows) := by
  intro hb id gL r hr
  obtain ⟨hw, jP⟩ := jU.1 hr
  have hn : ∀ r', uj ≠ some (id, r') := fun r' hu => hfi id r' hu ⟨hb, gL⟩
  refine jU.2 ⟨fun k hk => ?_, ?_⟩
  ·rcases nR.1 hk with ⟨_, r', hu⟩ | hk
   ·exact absurd hu (hn r')
   ·exact hw k hk
  ·simp only [app]; rw [yT hn]; exact jP
 refine ⟨bj, vj, uj, ⟨asp, asr⟩, ast, ⟨(PT h3).2 hgi, ?_⟩, ?_, ?_⟩
 ·by_cases hb : bi = true
  ·rw [if_pos hb] at SZ ⊢
   refine (HH ei).2 ?_
   exact (PQ (asv hb) SZ).1
  ·rw [if_neg hb] at SZ ⊢; exact SZ
 ·-- i's own row has not axU aqn
  rw [ER]
  rintro id r hu k (⟨hb, rfl, hh⟩ | hh)
  ·obtain ⟨r', jP⟩ := acB hb id hh
   exact absurd hu (hnw id r' jP r)
  ·exact ho id r hu k hh
 ·have : app i oi bi vi ui (app j oj bj vj uj st) = app j oj bj vj uj (app i oi bi vi ui st) := by
   simp only [app, ST.mk.injEq]
   refine ⟨put_comm fun d hd => fun S3 => (h2 d) (by first | exact hd | exact S3) (by first | exact S3 | exact hd), ?_, ?_, ?_⟩
   ·cases ui with
    | none => rfl
    | some x =>
     cases uj with
     | none => rfl
     | some y =>
      obtain ⟨id, r⟩ := x
      obtain ⟨iW, r'⟩ := y
      have : id ≠ iW := fun e => qG id r r' rfl (by rw [e])
      funext k
      simp only [fE, dE]
      split <;> split <;> simp_all
   ·funext k id
    have e1 : gP oi.op (aR (put st.f oj.dst vj)) = gP oi.op (aR st.f) := yS ei
    have e2 : gP oj.op (aR (put st.f oi.dst vi)) = gP oj.op (aR st.f) := yS ej
    rw [e1, e2]
    apply propext
    constructor
    ·rintro (h | h | h)
     ·exact .inr (.inl h)
     ·exact .inl h
     ·exact .inr (.inr h)
    ·rintro (h | h | h)
     ·exact .inr (.inl h)
     ·exact .inl h
     ·exact .inr (.inr h)
   ·funext k id
    apply propext
    rw [nR, nR, nR, nR]
    constructor
    ·rintro (h | h | h)
     ·exact .inr (.inl h)
     ·exact .inl h
     ·exact .inr (.inr h)
    ·rintro (h | h | h)
     ·exact .inr (.inl h)
     ·exact .inl h
     ·exact .inr (.inr h)
  rw [this]; exact hK
theorem HJ {j k : Nat} : SX md ops.toList j k = true ↔ ∃ oj, ops[j]? = some oj ∧ ∃ e ∈ oj.after, Region.binds md e = true ∧ e.on = k := by
 unfold SX
 cases h : ops[j]? with
 | none => simp [show ops.toList[j]? = none by simpa using h]
 | some oj =>
  rw [show ops.toList[j]? = some oj by simpa using h]
  simp only [List.any_eq_true, Bool.and_eq_true, beq_iff_eq, Option.some.injEq]
  constructor
  ·rintro ⟨e, he, h1, h2⟩; exact ⟨oj, rfl, e, by simpa using he, h1, h2⟩
  ·rintro ⟨_, rfl, e, he, h1, h2⟩; exact ⟨e, by simpa using he, h1, h2⟩
theorem acC {n j i : Nat} {oj : Oper} {aY : Array Bool} (hj : ops[j]? = some oj) (inv : HeadInv md ops n aY) (hr : ∀ e ∈ oj.after, Region.binds md e = true → aY.getD e.on false = true) (K9 : aY.getD i false = false) : nQ md ops.toList j i = false := by
 have one : ∀ k, SX md ops.toList j k = true → aY.getD k false = true := fun k hk => by
  obtain ⟨o, ho, e, he, h1, rfl⟩ := HJ.1 hk
  rw [hj] at ho; cases ho
  exact hr e he h1
 cases hd : nQ md ops.toList j i with
 | false => rfl
 | true =>
  exfalso
  unfold nQ at hd
  rcases Bool.or_eq_true_iff.1 hd with h | h
  ·rw [one i h] at K9; cases K9
  ·obtain ⟨k, _, hk⟩ := List.any_eq_true.1 h
   obtain ⟨h1, h2⟩ := Bool.and_eq_true_iff.1 hk
   obtain ⟨o, ho, e, he, h3, rfl⟩ := HJ.1 h2
   rw [inv.closed k o ho (one k h1) e he h3] at K9; cases K9
end
section
variable {E : Env} {ops : Array Oper} {md : Region.Mode}
def HK (E : Env) (md : Region.Mode) (ops : Array Oper) (c0 n : Nat) (L : Array Bool → ST → Prop) : Nat → Array Bool → ST → Prop
 | 0, aY, st => L aY st
 | f + 1, aY, st => Region.ready md ops aY ≠ [] ∧ ∀ i ∈ Region.ready md ops aY, i < n ∧ WY E md ops c0 i (HK E md ops c0 n L f (aY.setIfInBounds i true)) st
theorem HL {c0 n i : Nat} {oi : Oper} {b : Bool} {v : PV} {u : Option (Nat × Row)} {L : Array Bool → ST → Prop} (hi : ops[i]? = some oi) (nO : ∀ i oi, i < n → ops[i]? = some oi → cT E oi.op = true → oi.dst.isSome = true)
  (yU : ∀ aY, HeadInv md ops n aY → ∀ i, i < n → aY.getD i true = false → ∀ t, n ≤ t → t ∉ Region.ready md ops aY) (hin : i < n)
  (amL : ∀ aY st, L aY st → ∀ j ∈ Region.ready md ops aY, n ≤ j) :
  ∀ (f : Nat) (aY : Array Bool) (st : ST), HeadInv md ops n aY →
   (∀ j oj, ops[j]? = some oj → j ≠ i → aY.getD j true = false → (∀ e ∈ oj.after, Region.binds md e = true → e.on ≠ i) → oi.apart ops oj = true) →
   i ∈ Region.ready md ops aY → YG E md ops c0 i oi b v u st → SY md ops.toList i u st.bL →
   HK E md ops c0 n L f (aY.setIfInBounds i true) (app i oi b v u st) → HK E md ops c0 n L (f + 1) aY st := by
 intro f
 induction f with
 | zero =>
  intro aY st inv _ hr hy ho H
  have K9 := (mem_ready.1 hr).1
  refine ⟨fun h => (by rw [h] at hr; cases hr), fun j hj => ?_⟩
  have hjn : j < n := by
   rcases Nat.lt_or_ge j n with h | h
   ·exact h
   ·exact absurd hj (yU aY inv i hin K9 j h)
  refine ⟨hjn, ?_⟩
  by_cases hji : j = i
  ·subst hji; unfold WY; simp only [hi]; exact ⟨b, v, u, hy, ho, H⟩
  ·have := amL _ _ H j (ready_mono hj hji)
   omega
 | succ f ih =>
  intro aY st inv afl hr hy ho H
  have K9 := (mem_ready.1 hr).1
  refine ⟨fun h => (by rw [h] at hr; cases hr), fun j hj => ?_⟩
  have hjn : j < n := by
   rcases Nat.lt_or_ge j n with h | h
   ·exact h
   ·exact absurd hj (yU aY inv i hin K9 j h)
  refine ⟨hjn, ?_⟩
  by_cases hji : j = i
  ·subst hji; unfold WY; simp only [hi]; exact ⟨b, v, u, hy, ho, H⟩
  ·have h1 := (H.2 j (ready_mono hj hji)).2
   obtain ⟨amN, oj, hoj, r7⟩ := mem_ready.1 hj
   have ahA : ∀ e ∈ oj.after, Region.binds md e = true → e.on ≠ i := fun e he hb heq => by
    have h1 := r7 e he hb
    rw [heq, getD_both K9] at h1
    cases h1
   have h2 := acA hoj (afl j oj hoj hji amN ahA) (nO i oi hin hi) (nO j oj hjn hoj) (acC hoj inv r7 (getD_both K9)) hy ho h1
   have ahB : ∀ k ok, ops[k]? = some ok → k ≠ i → (aY.setIfInBounds j true).getD k true = false →
     (∀ e ∈ ok.after, Region.binds md e = true → e.on ≠ i) → oi.apart ops ok = true := fun k ok hk hki amO hno => by
    refine afl k ok hk hki ?_ hno
    by_cases hjk : j = k
    ·subst hjk; exact amN
    ·rw [getD_set_ne true hjk] at amO; exact amO
   refine WZ (fun PU h3 => ih (aY.setIfInBounds j true) PU (inv.set hj hjn) ahB (ready_mono hr (Ne.symm hji)) h3.1 h3.2.1 ?_) h2
   rw [Array.setIfInBounds_comm _ _ hji]
   exact h3.2.2
def ahD (E : Env) (md : Region.Mode) (ops : Array Oper) (c0 : Nat) (Lq : ST → Prop) : Nat → List Oper → ST → Prop
 | _, [], st => Lq st
 | k, o :: os, st => ∃ b v u, YG E md ops c0 k o b v u st ∧ SY md ops.toList k u st.bL ∧ ahD E md ops c0 Lq (k + 1) os (app k o b v u st)
theorem qH {c0 n g : Nat} {Lq : ST → Prop} (nO : ∀ i oi, i < n → ops[i]? = some oi → cT E oi.op = true → oi.dst.isSome = true) (yU : ∀ aY, HeadInv md ops n aY → ∀ i, i < n → aY.getD i true = false → ∀ t, n ≤ t → t ∉ Region.ready md ops aY) :
  ∀ (l : List Oper) (k : Nat) (aY : Array Bool) (st : ST), (∀ j, j < l.length → l[j]? = ops[k + j]?) → k + l.length = n → HeadInv md ops n aY →
  Region.lexHead md ops g l.length k aY = true → ahD E md ops c0 Lq k l st →
  HK E md ops c0 n (fun PW PU => Region.seqB md ops g n PW = true ∧ Lq PU) l.length aY st
 | [], k, aY, st, _, hk, _, hB, h => by
  have : k = n := by simpa using hk
  subst this
  exact ⟨by simpa [Region.lexHead] using hB, h⟩
 | o :: l, k, aY, st, hl, hk, inv, hB, h => by
  have h0 : ops[k]? = some o := by simpa using (hl 0 (by simp)).symm
  simp only [List.length_cons, Region.lexHead, Bool.and_eq_true] at hB
  obtain ⟨⟨hr, hf⟩, hB'⟩ := hB
  have hkn : k < n := by simp only [List.length_cons] at hk; omega
  have jP : k ∈ Region.ready md ops aY := by simpa using hr
  obtain ⟨b, v, u, hy, ho, hK⟩ := h
  exact HL h0 nO yU hkn (fun PW PU hL => seqB_ready hL.1) l.length aY st inv (Region.free_spec h0 hf) jP hy ho
   (qH nO yU l (k + 1) _ _ (fun j hj => by have := hl (j + 1) (by simp; omega); simpa [Nat.add_assoc, Nat.add_comm 1 j] using this) (by simp only [List.length_cons] at hk; omega) (inv.set jP hkn) hB' hK)
variable {w0 : World} {S0 : c9} {m : Nat} {G : Gs}
theorem L9 {o : Oper} {a : Act} {w : World} {f : Nat → PV} {rows : Rows} {U : Nat → Prop} {c0 : Nat} {v : PV} {u : Option (Nat × Row)} (PM : ¬ U c0) {g : FuncId} {aA1 : Array Operand} {ts : Array TypeId} (ho : o.op = .call { callee := .value (.func g), args := aA1, argTypes := ts })
  (hy : afi E g (aA1.toList.map fun x => aR f x) c0 (o.dst.getD 0) v u) (hR : nP w0 S0 m G U f rows a w) (hd : ∀ t, o.dst = some t → t < m)
  {K' : Act → World → Prop} {Q : Exit → Act → World → Prop} (hK : ∀ a' w', nP w0 S0 m G (fun v => v = c0 ∨ U v) (put f o.dst v) (fE rows u) a' w' → K' a' w') : o.wp E.P a w K' Q := by
 obtain ⟨⟨c, rfl, hr, fA, hI, hf, hG⟩, hn, eJ⟩ := hR
 have hρ := kP hf
 have hfu : ¬ c.used c0 := fun hu => PM (fA _ hu)
 obtain ⟨rL, e, n, els, ⟨⟨fn, b, h1, h2, h3⟩, L4⟩, rfl, rfl⟩ := hy
 obtain ⟨dst, op, type, pos, after, guard⟩ := o
 simp only at ho hd hK
 subst ho
 have fN : a7 (aK c) (aA1.toList.map fun x => aR f x) (aA1.map a.eval).toList := by
  refine a7.cV (by simp) fun k p u hp hu => ?_
  simp at hp hu
  obtain ⟨x, hx, rfl⟩ := hp
  obtain ⟨y, hy, rfl⟩ := hu
  rw [hx] at hy; cases hy
  exact hρ x
 have fD : bI c.S c.w (aA1.toList.map fun x => aR f x) (aA1.map a.eval).toList := cE.2 (a7.cV fN.length fun k p u hp hu => by
  obtain ⟨u', q1, q2⟩ := fN.get hp
  rw [hu] at q1; cases q1
  exact q2.rep (List.all_eq_true.1 rL p (List.mem_of_getElem? hp)))
 have pD := L4 c.w c.S _ (fun b o hb => hI.lt hb) fD
 simp only [Array.toArray_toList] at pD
 have hfo := hρ (.func g)
 simp only [aR, aK, aP, cJ] at hfo
 obtain ⟨cs, hfv, GY⟩ := hfo
 simp only [bI] at GY
 subst GY
 unfold Oper.wp
 have i3 : (execOp a.eval { dst := dst, op := .call { callee := .value (.func g), args := aA1, argTypes := ts }, type := type, pos := pos, after := after, guard := guard }).run E.P c.w = .ok (.enter g (aA1.map a.eval)) c.w := by
  simp only [execOp, resolve, hfv, Deferred.ofValue, Sem.run_bind, Sem.run_pure, Result.andThen_ok, invoke]
  simpa using lB h1 h2 h3 (aA1.map a.eval) c.w
 rw [i3]
 refine pD.mono ?_
 rintro x w' ⟨v', xs, S', rfl, hb, g1, g2, g3, g4, g5, g6, g7, g8⟩
 obtain ⟨hI2, hA2⟩ := hI.grow hb g1 g2
 obtain ⟨hI3, hA3⟩ := hI2.set (w' := w') (ob := v'.ownBlock) (id := dst.getD 0) (r' := ⟨c0, e, n, els⟩) (v' := v') (xs := xs) (World.grownBy.refl _ _)
  (fun g hg => by
   have hge := (g3.lt g hg).1
   refine ⟨by have := hI.below.size; omega, fun o => g8 g o hg, fun iW r hr _ yA => ?_⟩
   obtain ⟨⟨ys, q1, _, _⟩, _⟩ := hI.row iW r hr
   have := (q1.lt g yA).2
   omega) ⟨g3.1, g3.2.imp id fun ⟨g, cap, cur, q1, q2, q3⟩ => ⟨g, cap, cur, q1, Nat.le_trans hI.below.size q2, q3⟩⟩ (g4.mono fun _ _ h => aP.i0 h) g5 g6 g7 (fun g hg => .inl hg) hfu
 refine hK _ _ ?_
 have hf2 : ∀ s, aK { c with S := S', w := w' } (f s) (a.tmps.getD s undef) := fun s => aK.rU hA2 _ _ (hf s)
 have hG2 : ∀ p ∈ G, aK { c with S := S', w := w' } p.1 p.2 := fun p hp => aK.rU hA2 _ _ (hG p hp)
 refine mY hf2 hG2 hn eJ hA3 hI3 ?_ hd rfl (by simp [fE, hr]) (fun v hv => hv.imp (fun h => h) (fA v))
 rcases g3.2 with ⟨rfl, h8⟩ | ⟨g, jR, cur, rfl, _⟩
 ·have : els.length = 0 := h8
  rw [this]
  exact j8 (r := ⟨c0, e, n, els⟩) (A := none) (cap := 0) (by simp [dE]) (by simpa using h8) (Or.inl rfl) (by simp [dE])
 ·exact j8 (r := ⟨c0, e, n, els⟩) (by simp [dE]) rfl (Or.inl rfl) (by simp [dE])
theorem W2 {o : Oper} {a : Act} {w : World} {f : Nat → PV} {rows : Rows} {U : Nat → Prop} {c0 : Nat} {v : PV} {u : Option (Nat × Row)} (PM : ¬ U c0) (hn : cT E o.op = true) (hy : yn E c0 o.dst o.op (aR f) rows v u) (hR : nP w0 S0 m G U f rows a w) (hd : ∀ t, o.dst = some t → t < m)
  {K' : Act → World → Prop} {Q : Exit → Act → World → Prop} (hK : ∀ a' w', nP w0 S0 m G (fun v => v = c0 ∨ U v) (put f o.dst v) (fE rows u) a' w' → K' a' w') : o.wp E.P a w K' Q := by
 by_cases pD : ∃ g aA1 ts, o.op = .call { callee := .value (.func g), args := aA1, argTypes := ts } ∧ E.writes g = true
 ·obtain ⟨g, aA1, ts, ho, hw⟩ := pD
  rw [ho] at hy
  simp only [yn] at hy
  rw [if_pos hw] at hy
  exact L9 PM ho hy hR hd hK
 refine s7 (ver := c0) PM (K := fun _ f' rows' => f' = put f o.dst v ∧ rows' = fE rows u) ?_ hR hd (fun i f' rows' a' w' h j9 => by
  obtain ⟨rfl, rfl⟩ := h
  exact hK a' w' (j9.mono fun v hv => hv.imp (fun h => h.2) fun h => h))
 obtain ⟨dst, op, type, pos, after, guard⟩ := o
 simp only at hn hy pD ⊢
 refine lY hn ?_ ?_ ?_ ?_ ?_
 ·rintro t rfl
  simp only [yn] at hy
  obtain ⟨h2, rfl, rfl⟩ := hy
  exact ⟨h2, rfl, rfl⟩
 ·rintro t x rfl
  simp only [yn] at hy
  obtain ⟨h2, l, h3, h4, h5, rfl, rfl⟩ := hy
  exact ⟨h2, l, h3, fun q hq => EP (fun id _ r hr => by cases hr) (h4 q hq), h5, rfl, rfl⟩
 ·rintro t l cc rfl
  simp only [yn] at hy
  simp only [mP]
  split at hy
  ·rename_i e n b z k1 x k2 y hE hl hc
   obtain ⟨g1, g2, g3, g4, rfl, rfl⟩ := hy
   try rw [hE, hl, hc]
   exact ⟨g1, g2, g3, g4, rfl, rfl⟩
  ·exact hy.elim
 ·rintro x y t t2 rfl
  simp only [yn] at hy
  obtain ⟨h2, hy⟩ := hy
  simp only [mP]
  refine ⟨h2, ?_⟩
  unfold pE at hy
  unfold mZ
  split at hy
  ·rename_i e n b z hE
   obtain ⟨l, g1, g2, g3⟩ := hy
   rw [hE]
   refine ⟨l, g1, g2, ?_⟩
   split at g3
   ·rename_i hx
    obtain ⟨q1, q2, rfl, rfl⟩ := g3
    rw [hx]
    exact ⟨q1, q2, rfl, rfl⟩
   ·rename_i id ver off len hx
    obtain ⟨r, q1, q2, q3, q4, q5, q6, q7, q8, rfl, rfl⟩ := g3
    rw [hx]
    exact ⟨r, q1, q2, q3, q4, q5, q6, q7, q8, rfl, rfl⟩
   ·exact g3.elim
  ·exact hy.elim
 ·rintro g aA1 ts rfl hw
  exact absurd ⟨g, aA1, ts, rfl, hw⟩ pD
theorem S4 {c0 i : Nat} {st : ST} {K : ST → Prop} {U : Nat → Prop} (PM : ∀ o, ops[i]? = some o → cT E o.op = true → ¬ U (c0 + rk E ops.toList i)) (h : WY E md ops c0 i K st) {a : Act} {w : World} (hR : nP w0 S0 m G U st.f st.rows a w) (hd : ∀ o, o ∈ ops → ∀ t, o.dst = some t → t < m)
  {K' : Act → World → Prop} {Q : Exit → Act → World → Prop} (hK : ∀ PU a' w', K PU → nP w0 S0 m G (fun v => (v = c0 + rk E ops.toList i ∧ ∃ o, ops[i]? = some o ∧ cT E o.op = true) ∨ U v) PU.f PU.rows a' w' → K' a' w') : wpOp E.P ops Q i K' a w := by
 unfold WY at h
 unfold wpOp
 split at h
 ·rename_i hi; simp only [hi]; exact hK _ _ _ h (hR.mono fun v hv => .inr hv)
 ·rename_i o hi
  simp only [hi]
  obtain ⟨b, v, u, ⟨hg, hy⟩, ho, hk⟩ := h
  have j9 := hR
  obtain ⟨⟨c, rfl, hr, fA, hI, hf, hG⟩, hn, eJ⟩ := hR
  have hdo := hd o (Array.mem_of_getElem? hi)
  have afm : Region.wanted o (yielded ops a.tmps) = b := by
   unfold gOK at hg
   unfold Region.wanted
   cases hgd : o.guard with
   | none => rw [hgd] at hg; simp only at hg ⊢; exact hg.symm
   | some x =>
    obtain ⟨j, want⟩ := x
    rw [hgd] at hg
    simp only at hg ⊢
    obtain ⟨d, h1, h2⟩ := hg
    have hx := hf d
    rcases h2 with ⟨h2, h3⟩ | ⟨h2 | h2, h3⟩
    ·rw [h2] at hx
     rw [gH h1 hx, h3]
     cases want <;> rfl
    ·rw [h2] at hx
     rw [gH h1 hx, h3]
     cases want <;> rfl
    ·rw [h2] at hx
     rw [r6 h1 hx, h3]
     rfl
  by_cases hb : b = true
  ·subst hb
   rw [if_pos rfl] at hy
   rw [afm, if_pos rfl]
   left
   cases nO : cT E o.op with
   | true =>
    refine W2 (PM o hi nO) nO (PQ (fun id _ r jP => (jU.1 jP).2) hy).1 j9 hdo fun a' w' hR2 => hK _ _ _ hk ?_
    exact hR2.mono fun v hv => hv.imp (fun h => ⟨h, o, by first | exact hi | rfl, nO⟩) fun h => h
   | false =>
    rw [yP nO] at hy
    have BI : ys E o.op (aR st.f) c.rows v u := by
     rw [hr]
     exact (afh (fun id _ r jP => (jU.1 jP).2) hy).1
    refine HG hI hf BI fun v' c' h1 h2 h3 h4 h5 => hK _ _ _ hk ?_
    refine mY hf hG hn eJ h3 h4 h5 hdo rfl ?_ ?_
    ·simp only [app]
     rw [h1, hr]
    ·rw [h2]
     exact fun v hv => .inr (fA v hv)
  ·rw [if_neg hb] at hy
   obtain ⟨rfl, rfl⟩ := hy
   rw [afm, if_neg hb]
   refine hK _ _ _ hk ?_
   have yA : b = false := by simpa using hb
   subst yA
   exact mY hf hG hn eJ (rT.refl c) hI L8 hdo rfl (by rw [hr]; rfl) (fun v hv => .inr (fA v hv))
def Ul (E : Env) (ops : Array Oper) (c0 n : Nat) (aY : Array Bool) : Nat → Prop := fun v => v < c0 ∨ ∃ k o, k < n ∧ ops[k]? = some o ∧ cT E o.op = true ∧ v = c0 + rk E ops.toList k ∧ aY.getD k false = true
theorem MA {c0 n v : Nat} {aY : Array Bool} (h : Ul E ops c0 n aY v) : v < c0 + rk E ops.toList n := by
 rcases h with h | ⟨k, o, hk, ho, hn, rfl, _⟩
 ·omega
 ·have := WV (ops := ops.toList) (by simpa using ho) hn hk
  omega
theorem j4 {c0 n g : Nat} {L : Array Bool → ST → Prop} {Q : Exit → Act → World → Prop} (hd : ∀ o, o ∈ ops → ∀ t, o.dst = some t → t < m)
  (hL : ∀ aY (st : ST) a w, L aY st → nP w0 S0 m G (Ul E ops c0 n aY) st.f st.rows a w → wpAny E.P md ops Q g aY a w) :
  ∀ (f : Nat) (aY : Array Bool) (st : ST) (a : Act) (w : World), n ≤ aY.size → HK E md ops c0 n L f aY st → nP w0 S0 m G (Ul E ops c0 n aY) st.f st.rows a w → wpAny E.P md ops Q (f + g) aY a w
 | 0, aY, st, a, w, _, h, hR => by rw [Nat.zero_add]; exact hL _ _ _ _ h hR
 | f + 1, aY, st, a, w, mN, h, hR => by
  rw [show f + 1 + g = (f + g) + 1 by omega]
  refine ⟨fun h0 => absurd h0 h.1, fun i hi => ?_⟩
  have K9 := (mem_ready.1 hi).1
  obtain ⟨hin, hq⟩ := h.2 i hi
  refine S4 (fun o ho hn hU => ?_) hq hR hd fun PU a' w' h' j9 => j4 hd hL f _ PU a' w' (by simpa using mN) h' (j9.mono fun v hv => ?_)
  ·rcases hU with hU | ⟨k, o', hk, ho', uP, he, hl⟩
   ·omega
   ·have := ahv (ops := ops.toList) (by simpa using ho) hn (by simpa using ho') uP (by omega)
    subst this
    rw [getD_both K9] at hl; cases hl
  ·rcases hv with ⟨rfl, o, ho, hn⟩ | hv
   ·exact .inr ⟨i, o, hin, ho, hn, rfl, by simp [show i < aY.size by omega]⟩
   ·rcases hv with hv | ⟨k, o, hk, ho, hn, he, hl⟩
    ·exact .inl hv
    ·refine .inr ⟨k, o, hk, ho, hn, he, ?_⟩
     by_cases hki : i = k
     ·subst hki; simp [show i < aY.size by omega]
     ·simpa [Array.getElem?_setIfInBounds_ne hki] using hl
end
def aL (E : Env) (ops : List Oper) : List Oper → (PS → Prop) → PS → Prop
 | [], K, σ => K σ
 | o :: os, K, σ =>
  match o.guard with
  | none => dU E o (aL E ops os K) σ
  | some (j, want) =>
   match (ops[j]?).bind (·.dst) with
   | none => False
   | some d => (σ.f d = .bool want ∧ dU E o (aL E ops os K) σ) ∨ ((σ.f d = .bool (!want) ∨ σ.f d = .eP []) ∧ aL E ops os K (σ.put o.dst (.eP [])))
def aN (E : Env) (ops : List Oper) (clk : Nat) : Nat → List Oper → (PS → Prop) → ST → Prop
 | _, [], K, st => K ⟨st.f, st.rows, clk⟩
 | k, o :: os, K, st =>
  match o.guard with
  | none => ∃ v u, yn E clk o.dst o.op (aR st.f) (dN .any ops k st.wl st.rows) v u ∧ SY .any ops k u st.bL ∧ aN E ops (gQ E o.op clk) (k + 1) os K (app k o true v u st)
  | some (j, want) =>
   match (ops[j]?).bind (·.dst) with
   | none => False
   | some d => (st.f d = .bool want ∧ ∃ v u, yn E clk o.dst o.op (aR st.f) (dN .any ops k st.wl st.rows) v u ∧ SY .any ops k u st.bL ∧ aN E ops (gQ E o.op clk) (k + 1) os K (app k o true v u st)) ∨ ((st.f d = .bool (!want) ∨ st.f d = .eP []) ∧ aN E ops clk (k + 1) os K (app k o false (.eP []) none st))
def fO (E : Env) (tl : Nat) (ops : List Oper) (K : PS → Prop) (σ : PS) : Prop :=
 if tl = 0 then aN E ops σ.clock 0 ops K ⟨σ.f, σ.rows, fun _ _ => False, fun _ _ => False⟩
 else aN E ops σ.clock 0 (ops.take (ops.length - tl)) (aL E ops (ops.drop (ops.length - tl)) K) ⟨σ.f, σ.rows, fun _ _ => False, fun _ _ => False⟩
inductive PX where
 | normal
 | exit (id : Nat)
 | ret
def BL (K : PS → Prop) (Q : PX → PS → Prop) : PX → PS → Prop
 | .normal, σ => K σ
 | .exit id, σ => Q (.exit id) σ
 | .ret, σ => Q .ret σ
def BM (id : Nat) (Q : PX → PS → Prop) : PX → PS → Prop
 | .normal, σ => Q .normal σ
 | .exit j, σ => if j = id then Q .normal σ else Q (.exit j) σ
 | .ret, σ => Q .ret σ
def pF (E : Env) (n tl : Nat) (ops : Array Oper) (draw : Bool) : Bool :=
 (ops.all fun o => match o.dst with | some d => decide (d < n) | none => true) &&
 (!draw || (r5 E (if tl = 0 then ops.toList else ops.toList.take (ops.size - tl)) && (if tl = 0 then Region.noSelect ops && Region.lexHead .any ops 0 ops.size 0 (Array.replicate ops.size false) else decide (tl ≤ ops.size) && Region.lexTailB .any ops (ops.size - tl))))
def eA (E : Env) (n : Nat) (tl : Nat → Nat) : Code → Bool
 | .region id ops draw => pF E n (tl id) ops draw
 | .seq a b => eA E n tl a && eA E n tl b
 | .cond _ t e => eA E n tl t && eA E n tl e
 | .block _ c => eA E n tl c
 | .loop c => eA E n tl c
 | _ => true
section
variable {E : Env} {w0 : World} {S0 : c9} {n : Nat} {G : Gs}
theorem fV {ops : Array Oper} {K : PS → Prop} {Q : Exit → Act → World → Prop} (hK : ∀ σ' a' w', K σ' → Rel w0 S0 n G σ' a' w' → Q .normal a' w') :
  ∀ (l : List Oper) (σ : PS) (a : Act) (w : World), (∀ o ∈ l, ∀ t, o.dst = some t → t < n) → aL E ops.toList l K σ → Rel w0 S0 n G σ a w → wpList E.P ops Q l a w
 | [], σ, a, w, _, h, hR => hK _ _ _ h hR
 | o :: os, σ, a, w, hd, h, hR => by
  have hdo := hd o (by simp)
  have hds : ∀ o ∈ os, ∀ t, o.dst = some t → t < n := fun o ho => hd o (by simp [ho])
  have wanted : ∀ {σ}, dU E o (aL E ops.toList os K) σ → Rel w0 S0 n G σ a w → o.wp E.P a w (wpList E.P ops Q os) Q := fun hp hR =>
   wB hp hR hdo fun σ' a' w' hk j9 => fV hK os σ' a' w' hds hk j9
  unfold wpList
  simp only [aL] at h
  split at h
  ·rename_i hg
   rw [if_pos (by simp [Region.wanted, hg])]
   exact .inl (wanted h hR)
  ·rename_i j want hg
   split at h
   ·exact h.elim
   ·rename_i d S5
    have hd3 : (ops[j]?).bind (·.dst) = some d := by simpa using S5
    have skip : yielded ops a.tmps j ≠ some want → aL E ops.toList os K (σ.put o.dst (.eP [])) → (if Region.wanted o (yielded ops a.tmps) = true then o.wp E.P a w (wpList E.P ops Q os) Q ∨ (o.asks E.P a w ∧ LetsOut Q) else wpList E.P ops Q os (a.put o.dst undef) w) := by
     intro hy h2
     rw [if_neg (by simpa [Region.wanted, hg] using hy)]
     refine fV hK os _ _ w hds h2 ?_
     obtain ⟨⟨c, rfl, hr, fA, hI, hf, hG⟩, hn, eJ⟩ := hR
     exact lW hf hG hn eJ (rT.refl c) hI L8 hdo rfl (by simp [PS.put, hr]) fA
    obtain ⟨c, _, _, _, _, hf, _⟩ := hR.ex
    have hx := hf d
    rcases h with ⟨h1, h2⟩ | ⟨h1 | h1, h2⟩
    ·rw [h1] at hx
     rw [if_pos (by simp [Region.wanted, hg, gH hd3 hx])]
     exact .inl (wanted h2 hR)
    ·rw [h1] at hx
     exact skip (by rw [gH hd3 hx]; cases want <;> simp) h2
    ·rw [h1] at hx
     exact skip (by rw [r6 hd3 hx]; simp) h2
theorem m6 {ops : Array Oper} {c0 : Nat} {K : PS → Prop} : ∀ (l : List Oper) (k clk : Nat) (st : ST), (∀ j, j < l.length → l[j]? = ops[k + j]?) → r5 E l = true → clk = c0 + rk E ops.toList k → aN E ops.toList clk k l K st → ahD E .any ops c0 (fun st => K ⟨st.f, st.rows, c0 + rk E ops.toList (k + l.length)⟩) k l st
 | [], k, clk, st, _, _, hc, h => by subst hc; exact h
 | o :: os, k, clk, st, hl, HM, hc, h => by
  have ahF : r5 E os = true := by simp only [r5, List.all_cons, Bool.and_eq_true] at HM ⊢; exact HM.2
  have asy : o.guard ≠ none → cT E o.op = false := fun hg => by
   simp only [r5, List.all_cons, Bool.and_eq_true] at HM
   cases hn : cT E o.op with
   | false => rfl
   | true => have := HM.1; rw [hn] at this; simp at this; exact absurd this.2 hg
  have h0 : ops[k]? = some o := by simpa using (hl 0 (by simp)).symm
  have uM : gQ E o.op clk = c0 + rk E ops.toList (k + 1) := by rw [hc]; exact acz (by simpa using h0)
  have hl1 : ∀ j, j < os.length → os[j]? = ops[k + 1 + j]? := fun j hj => by have := hl (j + 1) (by simp; omega); simpa [Nat.add_assoc, Nat.add_comm 1 j] using this
  have e1 : k + (o :: os).length = k + 1 + os.length := by simp only [List.length_cons]; omega
  rw [e1]
  simp only [aN] at h
  split at h
  ·rename_i hg
   obtain ⟨v, u, h1, h2, h3⟩ := h
   exact ⟨true, v, u, ⟨by simp [gOK, hg], by rw [if_pos rfl, ← hc]; exact h1⟩, h2, m6 os _ _ _ hl1 ahF uM h3⟩
  ·rename_i j want hg
   split at h
   ·exact h.elim
   ·rename_i d S5
    have hd3 : (ops[j]?).bind (·.dst) = some d := by simpa using S5
    rcases h with ⟨h1, v, u, q1, q2, q3⟩ | ⟨h1, h2⟩
    ·exact ⟨true, v, u, ⟨by simp only [gOK, hg]; exact ⟨d, hd3, .inl ⟨h1, trivial⟩⟩, by rw [if_pos rfl, ← hc]; exact q1⟩, q2, m6 os _ _ _ hl1 ahF uM q3⟩
    ·exact ⟨false, .eP [], none, ⟨by simp only [gOK, hg]; exact ⟨d, hd3, .inr ⟨h1, trivial⟩⟩, by simp⟩, trivial, m6 os _ _ _ hl1 ahF (by rw [← uM, yR (asy (by rw [hg]; simp))]) h2⟩
theorem Rel.drew {σ : PS} {a : Act} {w : World} (h : Rel w0 S0 n G σ a w) : Rel w0 S0 n G σ a { w with drawn := w.drawn + 1 } := by
 obtain ⟨⟨c, rfl, hr, fA, hI, hf, hG⟩, hn, eJ⟩ := h
 obtain ⟨uO, hA⟩ := hI.grow (w' := { c.w with drawn := c.w.drawn + 1 }) (S' := c.S) ⟨rfl, rfl, rfl, Nat.le_refl _, fun _ _ => rfl⟩ (fun _ _ h => h) (fun _ _ h => .inl h)
 exact ⟨⟨{ c with w := { c.w with drawn := c.w.drawn + 1 } }, rfl, hr, fA, uO, fun s => aK.rU hA _ _ (hf s), fun p hp => aK.rU hA _ _ (hG p hp)⟩, hn, eJ⟩
theorem rN {id tl : Nat} {ops : Array Oper} {K : PS → Prop} {Q : Exit → Act → World → Prop} (fL : pF E n tl ops true = true) {σ : PS} {a : Act} {w : World} (h : fO E tl ops.toList K σ) (hR : Rel w0 S0 n G σ a w)
  (hK : ∀ σ' a' w', K σ' → Rel w0 S0 n G σ' a' w' → Q .normal a' w') : (Code.region id ops true).wp E.P Q a w := by
 simp only [pF, Bool.and_eq_true, Bool.not_true, Bool.false_or] at fL
 obtain ⟨ahG, rO, fL⟩ := fL
 have hd : ∀ o, o ∈ ops → ∀ t, o.dst = some t → t < n := by
  intro o ho t ht
  have := Array.all_eq_true_iff_forall_mem.1 ahG o ho
  simpa [ht] using this
 refine wp_region_any E.mixed ?_
 have HN := hR.drew
 have hU0 : ∀ k (l : Array Bool), nP w0 S0 n G (Ul E ops σ.clock k l) σ.f σ.rows a { w with drawn := w.drawn + 1 } := fun k l => HN.mono fun v hv => .inl hv
 have acF : ∀ (l : List Oper), r5 E l = true → ∀ (i : Nat) (oi : Oper), l[i]? = some oi → cT E oi.op = true → oi.dst.isSome = true := fun l h i oi hi hn => by
  have := List.all_eq_true.1 h oi (List.mem_of_getElem? hi)
  rw [hn] at this; simp at this; exact Option.isSome_iff_exists.2 (by obtain ⟨x, hx⟩ := Option.isSome_iff_exists.1 this.1; exact ⟨x, hx⟩)
 unfold fO at h
 by_cases htl : tl = 0
 ·rw [if_pos htl] at h fL rO
  have nO : ∀ i oi, i < ops.size → ops[i]? = some oi → cT E oi.op = true → oi.dst.isSome = true := fun i oi _ hi => acF _ rO i oi (by simpa using hi)
  simp only [Bool.and_eq_true] at fL
  have hl := m6 (c0 := σ.clock) ops.toList 0 _ _ (by simp) rO (by simp [rk]) h
  have W3 : HeadInv .any ops ops.size (Array.replicate ops.size false) :=
   ⟨by simp, fun j oj _ hl => (by rw [getD_replicate_false] at hl; cases hl), fun t h1 h2 => by omega⟩
  have yU : ∀ aY, HeadInv .any ops ops.size aY → ∀ i, i < ops.size → aY.getD i true = false → ∀ t, ops.size ≤ t → t ∉ Region.ready .any ops aY := by
   intro aY _ i _ _ t ht hr
   obtain ⟨_, o, ho, _⟩ := mem_ready.1 hr
   have := (Array.getElem?_eq_some_iff.1 ho).1
   omega
  have H := qH (E := E) (md := .any) (g := 0) nO yU ops.toList 0 _ _ (by simp) (by simp) W3 (by simpa using fL.2) hl
  have := j4 (E := E) (md := .any) (g := 0) (Q := Q) (m := n) hd (fun aY st a' w' hL j9 => by
   obtain ⟨h1, h2⟩ := hL
   exact ⟨by simpa [Region.seqB] using h1, hK _ _ _ h2 (j9.mono fun v hv => by have := MA hv; simpa using this)⟩) _ _ _ _ _ (by simp) H (hU0 _ _)
  simpa using this
 ·rw [if_neg htl] at h fL rO
  have nO : ∀ i oi, i < ops.size - tl → ops[i]? = some oi → cT E oi.op = true → oi.dst.isSome = true := fun i oi h1 hi => acF _ rO i oi (by rw [List.getElem?_take, if_pos h1]; simpa using hi)
  simp only [Bool.and_eq_true, decide_eq_true_eq] at fL
  obtain ⟨hle, hB⟩ := fL
  simp only [Region.lexTailB, Bool.and_eq_true, decide_eq_true_eq] at hB
  obtain ⟨⟨⟨⟨asz, uP⟩, hs⟩, hc⟩, ahH⟩ := hB
  have hlen : ops.toList.length = ops.size := by simp
  rw [hlen] at h
  have hl := m6 (c0 := σ.clock) (ops.toList.take (ops.size - tl)) 0 _ _ (fun j hj => by
   have hj' : j < ops.size - tl := by simpa using hj
   simp [hj']) rO (by simp [rk]) h
  have W3 : HeadInv .any ops (ops.size - tl) (Array.replicate ops.size false) :=
   ⟨by simp, fun j oj _ hl => (by rw [getD_replicate_false] at hl; cases hl), fun t _ ht => getD_in (by simpa using ht) (getD_replicate_false _ _)⟩
  have uR : (ops.toList.take (ops.size - tl)).length = ops.size - tl := by simp
  have W4 : (ops.toList.drop (ops.size - tl)).length = ops.size - (ops.size - tl) := by simp
  have H := qH (E := E) (md := .any) (n := ops.size - tl) (g := ops.size - (ops.size - tl)) nO (fun aY inv i hi K9 t ht => tail_waits hs hc uP inv _ i rfl hi K9 t ht) (ops.toList.take (ops.size - tl)) 0 _ _ (fun j hj => by
   rw [uR] at hj
   simp [hj]) (by rw [uR]; simp) W3 (by rw [uR]; exact ahH) hl
  have := j4 (E := E) (md := .any) (g := ops.size - (ops.size - tl)) (Q := Q) (m := n) hd (fun aY st a' w' hL j9 => by
   obtain ⟨h1, h2⟩ := hL
   have h3 := fV (ops := ops) (Q := Q) hK (ops.toList.drop (ops.size - tl)) _ a' w' (fun o ho => hd o (by simpa using List.mem_of_mem_drop ho)) h2 (j9.mono fun v hv => by have := MA hv; simpa using this)
   have h4 := wpAny_of_seq (md := .any) (Q' := Q) (ops.toList.drop (ops.size - tl)) (ops.size - tl) aY a' w' (fun j => by simp [List.getElem?_drop]) (by rw [W4]; exact h1) h3
   rwa [W4] at h4) _ _ _ _ _ (by simp) H (hU0 _ _)
  rw [uR, show ops.size - tl + (ops.size - (ops.size - tl)) = ops.size by omega] at this
  exact this
def ahI : PX → Exit
 | .normal => .normal
 | .exit id => .exit id
 | .ret => .ret
end
def oK (E : Env) (σ : PS) : List ResultVar → (List PV → Prop) → Prop
 | [], K => K []
 | .tmp t :: rs, K => oK E σ rs fun vs => K (σ.f t :: vs)
 | .cell a t :: rs, K => ∃ v, rG E t σ.rows (σ.f a) v ∧ oK E σ rs fun vs => K (v :: vs)
def HO : List PV → PV
 | [x] => x
 | l => .eP l
def W5 (E : Env) (rs : List ResultVar) (r : PV) (σ : PS) : Prop :=
 oK E σ rs fun vs => dM σ.rows (vs.flatMap dA) ∧ (vs.map (pz σ.rows)).all eY = true ∧ r = HO (vs.map (pz σ.rows))
def acH (E : Env) (rs : List ResultVar) (r : PV) : PX → PS → Prop
 | .normal, σ => W5 E rs r σ
 | .ret, σ => W5 E rs r σ
 | .exit _, _ => False
def CP (args : List PV) : PS := ⟨fun s => args.getD s .undef, fun _ => none, 0⟩
section
variable {E : Env} {w0 : World} {S0 : c9} {c : Cx}
theorem qI (hI : Inv w0 S0 c) {clk : Nat} {a : Act} {f : Nat → PV} (hf : ∀ s, aK c (f s) (a.tmps.getD s undef)) {g : ResultVar → Sem Value} (W6 : ∀ t, g (.tmp t) = pure (a.tmps.getD t undef))
  (mX : ∀ x t, g (.cell x t) = do loadVar t (← asAddr (a.tmps.getD x undef))) : ∀ (rs : List ResultVar) (K : List PV → Prop), oK E ⟨f, c.rows, clk⟩ rs K →
  ∃ vs us, K vs ∧ a7 (aK c) vs us ∧ (rs.mapM g : Sem (List Value)).run E.P c.w = .ok us c.w
 | [], K, h => ⟨[], [], h, trivial, by simp⟩
 | .tmp t :: rs, K, h => by
  obtain ⟨vs, us, h1, h2, h3⟩ := qI hI hf W6 mX rs _ h
  exact ⟨f t :: vs, a.tmps.getD t undef :: us, h1, ⟨hf t, h2⟩, by
   rw [List.mapM_cons, W6, Sem.run_bind, Sem.run_pure, Result.andThen_ok, Sem.run_bind, h3, Result.andThen_ok, Sem.run_pure]⟩
 | .cell x t :: rs, K, h => by
  obtain ⟨v, hv, h⟩ := h
  obtain ⟨vs, us, h1, h2, h3⟩ := qI hI hf W6 mX rs _ h
  obtain ⟨u, hu, hr⟩ := CD hI (hf x) hv
  refine ⟨v :: vs, u :: us, h1, ⟨hr, h2⟩, ?_⟩
  have SM : (do loadVar t (← asAddr (a.tmps.getD x undef)) : Sem Value).run E.P c.w = .ok u c.w := by
   simp only [Instr.loadAt, Sem.run_bind] at hu ⊢
   cases hx : a.tmps.getD x undef with
   | pointer p =>
    cases p with
    | some ad => rw [hx] at hu; simpa [Instr.sureAddr, asAddr] using hu
    | none => rw [hx] at hu; simp [Instr.sureAddr, stuck, Result.andThen] at hu
   | _ => rw [hx] at hu; simp [Instr.sureAddr, stuck, Result.andThen] at hu
  rw [List.mapM_cons, mX]
  simp only [Sem.run_bind] at SM ⊢
  rw [SM, Result.andThen_ok, h3, Result.andThen_ok, Sem.run_pure]
theorem MB {CQ : FuncId} {fn : Func} {code : Code} {args : List PV} {r : PV} (h1 : E.P.funcs[CQ]? = some fn) (h2 : fn.body = some code) (h3 : (fn.name == "runtime.NumGoroutine") = false) (fN : args.length ≤ fn.ntmps)
  (h : ∀ (w0 : World) (S0 : c9) (a : Act) (w : World) (Q' : Exit → Act → World → Prop), Rel w0 S0 fn.ntmps Gs.none (CP args) a w → (∀ x σ' a' w', acH E fn.results.toList r x σ' → Rel w0 S0 fn.ntmps Gs.none σ' a' w' → Q' (ahI x) a' w') → code.wp E.P Q' a w) : aI E.P CQ args r := by
 refine ⟨⟨fn, code, h1, h2, h3⟩, fun w S vs hS fD => ?_⟩
 have yJ := cE.1 fD
 refine calls_of_wp h1 h2 ?_
 have LO : vs.length = args.length := yJ.length.symm
 let c0 : Cx := ⟨S, w, fun _ => .slice none 0 0, fun _ => none, fun _ => False⟩
 have hI0 : Inv w S c0 := ⟨Below.refl _ _, fun _ _ h => h, fun _ _ h => .inl h, hS, fun _ _ h => by simp [c0] at h, fun _ _ h => by simp [c0] at h, fun _ _ _ _ _ h => by simp [c0] at h⟩
 have HN : Rel w S fn.ntmps Gs.none (CP args) { tmps := vs.toArray ++ Array.replicate (fn.ntmps - vs.toArray.size) undef, defers := [] } w := by
  refine ⟨⟨c0, rfl, rfl, fun _ h => h.elim, hI0, fun s => ?_, fun p hp => (Gs.HD hp).elim⟩, by simp; omega, rfl⟩
  simp only [CP]
  by_cases hs : s < args.length
  ·obtain ⟨u, hu, hr⟩ := yJ.get (List.getElem?_eq_getElem hs)
   have e1 : args.getD s .undef = args[s] := by simp [List.getD, List.getElem?_eq_getElem hs]
   have e2 : (vs.toArray ++ Array.replicate (fn.ntmps - vs.toArray.size) undef).getD s undef = u := by
    have : s < vs.length := by omega
    simp [this] at hu ⊢
    simp [Array.getElem?_append, this, hu]
   rw [e1]
   show aK c0 args[s] ((vs.toArray ++ Array.replicate (fn.ntmps - vs.toArray.size) undef).getD s undef)
   rw [e2]
   exact aK.i0 hr
  ·have e1 : args.getD s .undef = .undef := by simp [List.getD, List.getElem?_eq_none (show args.length ≤ s by omega)]
   rw [e1]
   simp [aK, aP]
 refine h _ _ _ _ _ HN ?_
 have fin : ∀ σ' a' w', W5 E fn.results.toList r σ' → Rel w S fn.ntmps Gs.none σ' a' w' → a'.defers = [] ∧ ∃ v, (results fn a'.tmps).run E.P w' = .ok v w' ∧ (∃ v', Ending.returned v = .returned v' ∧ Below w.heap.size w w' ∧
   ∃ S' : c9, (∀ b o, S b o → S' b o) ∧ (∀ b o, S' b o → S b o ∨ (w.heap.size ≤ b ∧ b < w'.heap.size)) ∧ cJ S' w' r v') := by
  rintro σ' a' w' hp ⟨⟨c, rfl, hr, fA, hI, hf, _⟩, hn, eJ⟩
  refine ⟨eJ, ?_⟩
  unfold W5 at hp
  have uL : oK E ⟨σ'.f, c.rows, σ'.clock⟩ fn.results.toList fun vs => dM c.rows (vs.flatMap dA) ∧ (vs.map (pz c.rows)).all eY = true ∧ r = HO (vs.map (pz c.rows)) := by
   rw [hr]; exact hp
  have amR : ∃ vs us, (dM c.rows (vs.flatMap dA) ∧ (vs.map (pz c.rows)).all eY = true ∧ r = HO (vs.map (pz c.rows))) ∧ a7 (aK c) vs us ∧
    (results fn a'.tmps).run E.P c.w = .ok (if h : us.toArray.size = 1 then us.toArray[0] else .tuple us.toArray) c.w := by
   have key : ∀ g : ResultVar → Sem Value, (∀ t, g (.tmp t) = pure (a'.tmps.getD t undef)) → (∀ x t, g (.cell x t) = do loadVar t (← asAddr (a'.tmps.getD x undef))) →
     ∃ vs us, (dM c.rows (vs.flatMap dA) ∧ (vs.map (pz c.rows)).all eY = true ∧ r = HO (vs.map (pz c.rows))) ∧ a7 (aK c) vs us ∧
      (do let vs ← fn.results.mapM g; pure (if h : vs.size = 1 then vs[0] else .tuple vs) : Sem Value).run E.P c.w = .ok (if h : us.toArray.size = 1 then us.toArray[0] else .tuple us.toArray) c.w := by
    intro g W6 mX
    obtain ⟨vs, us, g1, g4, g5⟩ := qI hI hf W6 mX _ _ uL
    refine ⟨vs, us, g1, g4, ?_⟩
    have : (fn.results.mapM g).run E.P c.w = .ok us.toArray c.w := by
     rw [Array.mapM_eq_mapM_toList]
     simp [g5]
    rw [Sem.run_bind, this, Result.andThen_ok, Sem.run_pure]
   unfold results
   exact key _ (fun _ => rfl) (fun _ _ => rfl)
  obtain ⟨vs, us, ⟨g1, g2, g3⟩, g4, i3⟩ := amR
  have HF := hI.freeze (vs.flatMap dA)
  have r7 : a7 (cJ (LY c (vs.flatMap dA)) c.w) (vs.map (pz c.rows)) us := by
   refine a7.cV (by simp [g4.length]) fun k p u hp hu => ?_
   simp at hp
   obtain ⟨q, hq, rfl⟩ := hp
   obtain ⟨u', q1, q2⟩ := g4.get hq
   rw [hu] at q1; cases q1
   exact EH hI g1 q2 (fun id gL => by simp only [List.mem_flatMap]; exact ⟨q, List.mem_of_getElem? hq, gL⟩) (List.all_eq_true.1 g2 _ (by simp; exact ⟨q, List.mem_of_getElem? hq, rfl⟩))
  refine ⟨_, i3, _, rfl, hI.below, LY c (vs.flatMap dA), fun b o h => HF.ext b o h, fun b o h => HF.new b o h, ?_⟩
  rw [g3]
  have hl := r7.length
  cases hm : vs.map (pz c.rows) with
  | nil =>
   rw [hm] at r7 hl
   have : us = [] := List.eq_nil_of_length_eq_zero (by simpa using hl.symm)
   subst this
   simp only [HO, cJ]
   exact ⟨[], by simp, by simp [bI]⟩
  | cons p ps =>
   rw [hm] at r7 hl
   match us, r7 with
   | u :: us, r7 =>
    cases ps with
    | nil =>
     match us, r7 with
     | [], r7 => simpa [HO] using r7.1
    | cons q qs =>
     have h2 : ¬ (u :: us).toArray.size = 1 := by simp at hl ⊢; intro h; subst h; simp at hl
     rw [dif_neg h2]
     simp only [HO, cJ]
     exact ⟨_, rfl, cE.2 r7⟩
 intro x σ' a' w' hx j9
 cases x with
 | normal => exact fin σ' a' w' hx j9
 | ret => exact fin σ' a' w' hx j9
 | exit id => exact hx.elim
end
section
variable {P : Program} {t : TypeId}
theorem aG {n : Nat} {v : Value} {z : List PV} (h : (P.info? t).bind (fun i => i.zero.map fun v => (i.size, v)) = some (n, v)) (hz : v.cells.toList.map iE = z) (h1 : v.cells.all (·.oneCell') = true) (hl : z.length = n) (hp : 0 < n) : kI P t n z := by
 refine ⟨?_, hl, hp⟩
 cases hi : P.info? t with
 | none => simp [hi] at h
 | some i =>
  cases rA : i.zero with
  | none => simp [hi, rA] at h
  | some v0 =>
   simp [hi, rA] at h
   obtain ⟨rfl, rfl⟩ := h
   exact ⟨i, v0, rfl, rA, rfl, hz, h1⟩
theorem cH {b : Nat} (h : (P.info? t).map (·.bytes) = some b) : ∃ i, P.info? t = some i ∧ i.bytes = b := by
 cases hi : P.info? t with
 | none => simp [hi] at h
 | some i => exact ⟨i, rfl, by simpa [hi] using h⟩
theorem S6 {n : Nat} (h : (P.info? t).map (·.size) = some n) : ∃ i, P.info? t = some i ∧ i.size = n := by
 cases hi : P.info? t with
 | none => simp [hi] at h
 | some i => exact ⟨i, rfl, by simpa [hi] using h⟩
theorem W7 (h : (P.underlying t).isSome = true) : ∃ d, P.underlying t = some d := Option.isSome_iff_exists.1 h
def MC (P : Program) (f : Field) (x : Nat × Nat × Bool) : Bool :=
 f.offset == x.1 && (P.info? f.type).map (·.size) == some x.2.1 && decide (0 < x.2.1) && uX P f.type == x.2.2 && (P.underlying f.type).isSome
def qJ (P : Program) : List Field → List (Nat × Nat × Bool) → Bool
 | [], [] => true
 | f :: fs, x :: xs => MC P f x && qJ P fs xs
 | _, _ => false
theorem S7 {f : Field} {x : Nat × Nat × Bool} (h : MC P f x = true) : lU P f x := by
 simp only [MC, Bool.and_eq_true, beq_iff_eq, decide_eq_true_eq] at h
 obtain ⟨⟨⟨⟨h1, h2⟩, h3⟩, h4⟩, h5⟩ := h
 exact ⟨h1, S6 h2, h3, h4, W7 h5⟩
theorem yV : ∀ {fs : List Field} {xs : List (Nat × Nat × Bool)}, qJ P fs xs = true → a7 (lU P) fs xs
 | [], [], _ => trivial
 | f :: fs, x :: xs, h => by
  simp only [qJ, Bool.and_eq_true] at h
  exact ⟨S7 h.1, yV h.2⟩
 | [], _ :: _, h => by simp [qJ] at h
 | _ :: _, [], h => by simp [qJ] at h
def PY (P : Program) (t : TypeId) (xs : List (Nat × Nat × Bool)) : Bool :=
 match P.underlying t with
 | some (.struct fields) => qJ P fields.toList xs
 | _ => false
theorem bA {xs : List (Nat × Nat × Bool)} (h : PY P t xs = true) : ∃ fields : Array Field, P.underlying t = some (.struct fields) ∧ a7 (lU P) fields.toList xs := by
 unfold PY at h
 split at h
 ·rename_i fields hu; exact ⟨fields, hu, yV h⟩
 ·cases h
end
def W (E : Env) (n : Nat) (tl : Nat → Nat) (c : Code) (Q : PX → PS → Prop) (σ : PS) : Prop :=
 eA E n tl c = true → ∀ (w0 : World) (S0 : c9) (G : Gs) (a : Act) (w : World) (Q' : Exit → Act → World → Prop), Rel w0 S0 n G σ a w →
  (∀ x σ' a' w', Q x σ' → Rel w0 S0 n G σ' a' w' → Q' (ahI x) a' w') → c.wp E.P Q' a w
def Gh (n : Nat) (σ σ' : PS) : Prop := ∀ (w0 : World) (S0 : c9) (G : Gs) (a : Act) (w : World), Rel w0 S0 n G σ a w → Rel w0 S0 n G σ' a w
section
variable {E : Env} {n : Nat} {tl : Nat → Nat} {Q : PX → PS → Prop} {σ : PS}
theorem W.ghost {c : Code} {σ' : PS} (h : Gh n σ σ') (hw : W E n tl c Q σ') : W E n tl c Q σ := fun fL w0 S0 G a w Q' hR hQ => hw fL w0 S0 G a w Q' (h _ _ _ _ _ hR) hQ
theorem W.mono {c : Code} {Q2 : PX → PS → Prop} (hw : W E n tl c Q2 σ) (h : ∀ x σ, Q2 x σ → Q x σ) : W E n tl c Q σ := fun fL w0 S0 G a w Q' hR hQ => hw fL w0 S0 G a w Q' hR fun x σ' a' w' hx => hQ x σ' a' w' (h x σ' hx)
theorem W.skip (h : Q .normal σ) : W E n tl .skip Q σ := fun _ _ _ _ a w _ hR hQ => wp_skip (hQ .normal σ a w h hR)
theorem W.ret (h : Q .ret σ) : W E n tl .ret Q σ := fun _ _ _ _ a w _ hR hQ => wp_ret (hQ .ret σ a w h hR)
theorem W.exit {id : Nat} (h : Q (.exit id) σ) : W E n tl (.exit id) Q σ := fun _ _ _ _ a w _ hR hQ => wp_exit (hQ (.exit id) σ a w h hR)
theorem W.HP {id : Nat} {ops : List Oper} (h : ∀ K : PS → Prop, (∀ σ, Q .normal σ → K σ) → aL E ops ops K σ) : W E n tl (.region id ops.toArray false) Q σ := by
 intro fL w0 S0 G a w Q' hR hQ
 simp only [eA, pF, Bool.and_eq_true] at fL
 refine wp_region_list (fV (fun σ' a' w' hk j9 => hQ .normal σ' a' w' hk j9) _ σ a w (fun o ho t ht => ?_) (h _ fun _ h => h) hR)
 have := Array.all_eq_true_iff_forall_mem.1 fL.1 o (by simpa using ho)
 simpa [ht] using this
theorem W.W8 {id : Nat} {ops : List Oper} (h : ∀ K : PS → Prop, (∀ σ, Q .normal σ → K σ) → fO E (tl id) ops K σ) : W E n tl (.region id ops.toArray true) Q σ := by
 intro fL w0 S0 G a w Q' hR hQ
 exact rN (by simpa [eA] using fL) (h _ fun _ h => h) hR fun σ' a' w' hk j9 => hQ .normal σ' a' w' hk j9
theorem W.seq {x y : Code} (h : W E n tl x (BL (W E n tl y Q) Q) σ) : W E n tl (.seq x y) Q σ := by
 intro fL w0 S0 G a w Q' hR hQ
 simp only [eA, Bool.and_eq_true] at fL
 refine wp_seq (h fL.1 w0 S0 G a w _ hR fun x σ' a' w' hx j9 => ?_)
 cases x with
 | normal => exact hx fL.2 w0 S0 G a' w' _ j9 hQ
 | exit id => exact hQ (.exit id) σ' a' w' hx j9
 | ret => exact hQ .ret σ' a' w' hx j9
theorem W.MD {id : Nat} {ops : List Oper} {y : Code} (h : ∀ K : PS → Prop, (∀ σ, W E n tl y Q σ → K σ) → aL E ops ops K σ) : W E n tl (.seq (.region id ops.toArray false) y) Q σ :=
 W.seq (W.HP h)
theorem W.W9 {id : Nat} {ops : List Oper} {y : Code} (h : ∀ K : PS → Prop, (∀ σ, W E n tl y Q σ → K σ) → fO E (tl id) ops K σ) : W E n tl (.seq (.region id ops.toArray true) y) Q σ :=
 W.seq (W.W8 h)
theorem W.cond {c : Operand} {t e : Code} (h : ∃ b, aR σ.f c = .bool b ∧ (b = true → W E n tl t Q σ) ∧ (b = false → W E n tl e Q σ)) : W E n tl (.cond c t e) Q σ := by
 intro fL w0 S0 G a w Q' hR hQ
 simp only [eA, Bool.and_eq_true] at fL
 obtain ⟨b, hb, h1, h2⟩ := h
 obtain ⟨cx, _, _, _, _, hf, _⟩ := hR.ex
 have := kP hf c
 rw [hb, cW] at this
 refine wp_cond this ?_
 cases b with
 | true => exact h1 rfl fL.1 w0 S0 G a w Q' hR hQ
 | false => exact h2 rfl fL.2 w0 S0 G a w Q' hR hQ
theorem W.block {id : Nat} {c : Code} (h : W E n tl c (BM id Q) σ) : W E n tl (.block id c) Q σ := by
 intro fL w0 S0 G a w Q' hR hQ
 refine wp_block (h fL w0 S0 G a w _ hR fun x σ' a' w' hx j9 => ?_)
 cases x with
 | normal => exact hQ .normal σ' a' w' hx j9
 | exit j =>
  simp only [BM] at hx
  simp only [ahI, Exit.inBlock]
  split at hx
  ·rename_i hj; rw [if_pos hj]; exact hQ .normal σ' a' w' hx j9
  ·rename_i hj; rw [if_neg hj]; exact hQ (.exit j) σ' a' w' hx j9
 | ret => exact hQ .ret σ' a' w' hx j9
theorem W.loop {c : Code} (I : Nat → PS → Prop) (k : Nat) (h0 : I k σ) (h1 : ∀ k σ, I k σ → W E n tl c (BL (fun σ' => ∃ m, m < k ∧ I m σ') Q) σ) : W E n tl (.loop c) Q σ := by
 intro fL w0 S0 G a w Q' hR hQ
 refine wp_loop_ghost (fun k a w => ∃ σ, I k σ ∧ Rel w0 S0 n G σ a w) k ⟨σ, h0, hR⟩ ?_
 rintro k a w ⟨σ, hI, hR⟩
 refine h1 k σ hI fL w0 S0 G a w _ hR fun x σ' a' w' hx j9 => ?_
 cases x with
 | normal => obtain ⟨m, hm, uO⟩ := hx; exact ⟨m, hm, σ', uO, j9⟩
 | exit id => exact hQ (.exit id) σ' a' w' hx j9
 | ret => exact hQ .ret σ' a' w' hx j9
end
theorem XA {E : Env} {CQ : FuncId} {fn : Func} {code : Code} (tl : Nat → Nat) {args : List PV} {r : PV} (h1 : E.P.funcs[CQ]? = some fn) (h2 : fn.body = some code) (h3 : (fn.name == "runtime.NumGoroutine") = false)
  (fL : eA E fn.ntmps tl code = true) (fN : args.length ≤ fn.ntmps) (h : W E fn.ntmps tl code (acH E fn.results.toList r) (CP args)) : aI E.P CQ args r :=
 MB h1 h2 h3 fN fun w0 S0 a w Q' hR hQ => h fL w0 S0 Gs.none a w Q' hR hQ
def go (P : Prop) : Prop := P
def aU (R : PV → Prop) (K : PV → Prop) : Prop := ∃ v, R v ∧ K v
def gM (p : PV) (want : Bool) (A B : Prop) : Prop := ∃ t, p = .bool t ∧ (t = want → A) ∧ (t = (!want) → B)
def stepG (p : PV) (want : Bool) (A B : Prop) : Prop := (p = .bool want ∧ A) ∨ ((p = .bool (!want) ∨ p = .eP []) ∧ B)
def aH (A B : Prop) : Prop := A ∧ B
@[congr] theorem afn {R R' K : PV → Prop} (h : ∀ v, R v = R' v) : aU R K = aU R' K := by rw [show R = R' from funext h]
@[congr] theorem afo {p p' : PV} {want : Bool} {A B : Prop} (h : p = p') : gM p want A B = gM p' want A B := by rw [h]
@[congr] theorem afp {p p' : PV} {want : Bool} {A B : Prop} (h : p = p') : stepG p want A B = stepG p' want A B := by rw [h]
@[congr] theorem afq {A A' B : Prop} (h : A = A') : aH A B = aH A' B := by rw [h]
@[congr] theorem ahJ {E : Env} {ops l : List Oper} {K : PS → Prop} {σ σ' : PS} (h : σ = σ') : aL E ops l K σ = aL E ops l K σ' := by rw [h]
@[congr] theorem ahK {E : Env} {ops l : List Oper} {clk k k' : Nat} {K : PS → Prop} {σ σ' : ST} (hk : k = k') (h : σ = σ') : aN E ops clk k l K σ = aN E ops clk k' l K σ' := by rw [hk, h]
@[congr] theorem ahL {md : Region.Mode} {ops : List Oper} {j j' k k' : Nat} (hj : j = j') (hk : k = k') : nQ md ops j k = nQ md ops j' k' := by rw [hj, hk]
@[congr] theorem akF {md : Region.Mode} {ops : List Oper} {i i' id iW : Nat} {t t' : Nat → Nat → Prop} (hi : i = i') (gL : id = iW) (ht : t = t') : yQ md ops i id t = yQ md ops i' iW t' := by rw [hi, gL, ht]
@[congr] theorem ahM {md : Region.Mode} {ops : List Oper} {i i' : Nat} {t t' : Nat → Nat → Prop} {rows rows' : Rows} (hi : i = i') (ht : t = t') (hr : rows = rows') : dN md ops i t rows = dN md ops i' t' rows' := by rw [hi, ht, hr]
@[congr] theorem abX {E : Env} {tl : Nat} {l : List Oper} {K : PS → Prop} {σ σ' : PS} (h : σ = σ') : fO E tl l K σ = fO E tl l K σ' := by rw [h]
@[congr] theorem aqq {E : Env} {n : Nat} {tl : Nat → Nat} {c : Code} {Q : PX → PS → Prop} {σ σ' : PS} (h : σ = σ') : W E n tl c Q σ = W E n tl c Q σ' := by rw [h]
theorem i5 {t : PV} {K : PV → Prop} : aU (fun v => v = t) K = K t := by simp [aU]
theorem S8 {t : PV} {K : PV → Prop} : aU (fun v => t = v) K = K t := by simp [aU]
theorem iN {c : Prop} {R K : PV → Prop} : aU (fun v => c ∧ R v) K = aH c (aU R K) := by
 apply propext; simp only [aU, aH]
 constructor
 ·rintro ⟨v, ⟨h1, h2⟩, h3⟩; exact ⟨h1, v, h2, h3⟩
 ·rintro ⟨h1, v, h2, h3⟩; exact ⟨v, ⟨h1, h2⟩, h3⟩
theorem XB {α : Type} {R : α → PV → Prop} {K : PV → Prop} : aU (fun v => ∃ x, R x v) K = ∃ x, aU (R x) K := by
 apply propext; simp only [aU]
 constructor
 ·rintro ⟨v, ⟨x, h2⟩, h3⟩; exact ⟨x, v, h2, h3⟩
 ·rintro ⟨x, v, h2, h3⟩; exact ⟨v, ⟨x, h2⟩, h3⟩
theorem ME {B : Prop} : aH True B = B := by simp [aH]
theorem XC {A B : Prop} : gM (.bool true) true A B = A := by simp [gM]
theorem XD {A B : Prop} : gM (.bool true) false A B = B := by simp [gM]
theorem XE {A B : Prop} : gM (.bool false) true A B = B := by simp [gM]
theorem XF {A B : Prop} : stepG (.bool true) true A B = A := by simp [stepG]
theorem XG {A B : Prop} : stepG (.bool true) false A B = B := by simp [stepG]
theorem XH {A B : Prop} : stepG (.bool false) true A B = B := by simp [stepG]
theorem XI {A B : Prop} : stepG (.bool false) false A B = A := by simp [stepG]
theorem XJ {w : Bool} {A B : Prop} : stepG (.eP []) w A B = B := by simp [stepG]
theorem XK {A B : Prop} : gM (.bool false) false A B = A := by simp [gM]
theorem yW {f : Nat → PV} {d j : Nat} {v : PV} : put f (some d) v j = if j = d then v else f j := rfl
theorem XL {f : Nat → PV} {v : PV} : put f none v = f := rfl
theorem ahN {α : Type} {f : Nat → α} {i j : Nat} {x : α} : dE f i x j = if j = i then x else f j := rfl
def fa : List (Nat × PV) → Nat → PV
 | [], _ => .undef
 | (i, v) :: l, j => if j = i then v else fa l j
theorem MF {j : Nat} : fa [] j = .undef := rfl
theorem ES {i j : Nat} {v : PV} {l : List (Nat × PV)} : fa ((i, v) :: l) j = if j = i then v else fa l j := rfl
section
variable {E : Env} {ops os : List Oper} {K : PS → Prop} {f : Nat → PV} {rows : Rows} {clk : Nat} {d : Option Tmp} {ty : TypeId} {pos : String} {af : Array Edge}
theorem aC (n : Nat) (l : List Nat) : Gh n ⟨f, rows, clk⟩ ⟨fa (l.map fun i => (i, f i)), rows, clk⟩ := by
 rintro w0 S0 G a w ⟨⟨c, h1, h2, h3, h4, h5, h6⟩, h7, h8⟩
 refine ⟨⟨c, h1, h2, h3, h4, fun s => ?_, h6⟩, h7, h8⟩
 have : fa (l.map fun i => (i, f i)) s = f s ∨ fa (l.map fun i => (i, f i)) s = .undef := by
  induction l with
  | nil => exact .inr rfl
  | cons i l ih =>
   simp only [List.map_cons, fa]
   split
   ·rename_i h; rw [h]; exact .inl rfl
   ·exact ih
 rcases this with h | h
 ·simp only; rw [h]; exact h5 s
 ·simp only; rw [h]; simp [aK, aP]
theorem W.live {n : Nat} {tl : Nat → Nat} {c : Code} {Q : PX → PS → Prop} (l : List Nat) (h : W E n tl c Q ⟨fa (l.map fun i => (i, f i)), rows, clk⟩) : W E n tl c Q ⟨f, rows, clk⟩ := W.ghost (aC n l) h
theorem MG {op : Op} {j : Nat} {want : Bool} : aL E ops (⟨d, op, ty, pos, af, some (j, want)⟩ :: os) K ⟨f, rows, clk⟩ =
  match (ops[j]?).bind (·.dst) with
  | none => False
  | some e => stepG (f e) want (aL E ops (⟨d, op, ty, pos, af, none⟩ :: os) K ⟨f, rows, clk⟩) (aL E ops os K ⟨put f d (.eP []), rows, clk⟩) := by
 simp only [aL]
 cases hx : (ops[j]?).bind (·.dst) with
 | none => rfl
 | some e => rfl
theorem bX {R : PV → Prop} {k : PV → Prop} (h : ∀ v, R v ↔ k v) : (∃ v u, (R v ∧ u = none) ∧ K ⟨put f d v, fE rows u, clk⟩) = aU k fun v => K ⟨put f d v, rows, clk⟩ := by
 apply propext; simp only [aU]
 constructor
 ·rintro ⟨v, u, ⟨h1, rfl⟩, h2⟩; exact ⟨v, (h v).1 h1, h2⟩
 ·rintro ⟨v, h1, h2⟩; exact ⟨v, none, ⟨(h v).2 h1, rfl⟩, h2⟩
theorem S9 {x : Operand} : aL E ops (⟨d, .move x, ty, pos, af, none⟩ :: os) K ⟨f, rows, clk⟩ = aL E ops os K ⟨put f d (aR f x), rows, clk⟩ := by
 simp only [aL, dU, ys, yv]
 rw [bX (k := fun v => v = aR f x) (fun v => Iff.rfl), i5]
theorem HQ {x : Operand} : aL E ops (⟨d, .assign x, ty, pos, af, none⟩ :: os) K ⟨f, rows, clk⟩ = aL E ops os K ⟨put f d (aR f x), rows, clk⟩ := by
 simp only [aL, dU, ys, yv]
 rw [bX (k := fun v => v = aR f x) (fun v => Iff.rfl), i5]
theorem TA {c a b : Operand} : aL E ops (⟨d, .pick c a b, ty, pos, af, none⟩ :: os) K ⟨f, rows, clk⟩ = gM (aR f c) true (aL E ops os K ⟨put f d (aR f a), rows, clk⟩) (aL E ops os K ⟨put f d (aR f b), rows, clk⟩) := by
 simp only [aL, dU, ys, yv]
 rw [bX (fun v => Iff.rfl)]
 apply propext; simp only [aU, gM]
 constructor
 ·rintro ⟨v, ⟨t, h1, rfl⟩, h2⟩
  refine ⟨t, h1, fun h => ?_, fun h => ?_⟩
  ·subst h; exact h2
  ·subst h; exact h2
 ·rintro ⟨t, h1, h2, h3⟩
  cases t with
  | true => exact ⟨_, ⟨true, h1, rfl⟩, h2 rfl⟩
  | false => exact ⟨_, ⟨false, h1, rfl⟩, h3 rfl⟩
theorem XM {op : BinOp} {t t2 : TypeId} {x y : Operand} : aL E ops (⟨d, .binOp op t x y t2, ty, pos, af, none⟩ :: os) K ⟨f, rows, clk⟩ = aU (fun v => EA E op t (aR f x) (aR f y) v) fun v => aL E ops os K ⟨put f d v, rows, clk⟩ := by
 simp only [aL, dU, ys, yv]
 rw [bX (fun v => Iff.rfl)]
theorem acI {op : UnOp} {t : TypeId} {x : Operand} : aL E ops (⟨d, .unOp op t x, ty, pos, af, none⟩ :: os) K ⟨f, rows, clk⟩ = aU (fun v => yun op (aR f x) v) fun v => aL E ops os K ⟨put f d v, rows, clk⟩ := by
 simp only [aL, dU, ys, yv]
 rw [bX (k := fun v => yun op (aR f x) v) (fun v => Iff.rfl)]
theorem TB {s t : TypeId} {x : Operand} : aL E ops (⟨d, .convert s t x, ty, pos, af, none⟩ :: os) K ⟨f, rows, clk⟩ = aU (fun v => rI (E.ty s) (E.ty t) (aR f x) v) fun v => aL E ops os K ⟨put f d v, rows, clk⟩ := by
 simp only [aL, dU, ys, yv]
 rw [bX (k := fun v => rI (E.ty s) (E.ty t) (aR f x) v) (fun v => Iff.rfl)]
theorem ET {i : Nat} {x : Operand} : aL E ops (⟨d, .extract x i, ty, pos, af, none⟩ :: os) K ⟨f, rows, clk⟩ = aU (fun v => LI i (aR f x) v) fun v => aL E ops os K ⟨put f d v, rows, clk⟩ := by
 simp only [aL, dU, ys, yv]
 rw [bX (k := fun v => LI i (aR f x) v) (fun v => Iff.rfl)]
theorem TC {t : TypeId} {x : Operand} : aL E ops (⟨d, .load t x, ty, pos, af, none⟩ :: os) K ⟨f, rows, clk⟩ = aU (fun v => rG E t rows (aR f x) v) fun v => aL E ops os K ⟨put f d v, rows, clk⟩ := by
 simp only [aL, dU, ys, yv]
 rw [bX (fun v => Iff.rfl)]
theorem MH {t : TypeId} {i : Nat} {x : Operand} : aL E ops (⟨d, .field t x i, ty, pos, af, none⟩ :: os) K ⟨f, rows, clk⟩ = aU (fun v => rV E t i (aR f x) v) fun v => aL E ops os K ⟨put f d v, rows, clk⟩ := by
 simp only [aL, dU, ys, yv]
 rw [bX (fun v => Iff.rfl)]
theorem yX {t : TypeId} {i : Nat} {x : Operand} : aL E ops (⟨d, .fieldAddr t x i, ty, pos, af, none⟩ :: os) K ⟨f, rows, clk⟩ = aU (fun v => eG E t rows i (aR f x) v) fun v => aL E ops os K ⟨put f d v, rows, clk⟩ := by
 simp only [aL, dU, ys, yv]
 rw [bX (fun v => Iff.rfl)]
theorem yY {t : TypeId} {x y : Operand} : aL E ops (⟨d, .indexAddr t x y, ty, pos, af, none⟩ :: os) K ⟨f, rows, clk⟩ = aU (fun v => eH E t rows (aR f x) (aR f y) v) fun v => aL E ops os K ⟨put f d v, rows, clk⟩ := by
 simp only [aL, dU, ys, yv]
 rw [bX (fun v => Iff.rfl)]
theorem MI {t : TypeId} {x : Operand} {lo hi mx : Option Operand} : aL E ops (⟨d, .slice t x lo hi mx, ty, pos, af, none⟩ :: os) K ⟨f, rows, clk⟩ = aU (fun v => mM E t rows (aR f x) (lo.map (aR f)) (hi.map (aR f)) (mx.map (aR f)) v) fun v => aL E ops os K ⟨put f d v, rows, clk⟩ := by
 simp only [aL, dU, ys, yv]
 rw [bX (fun v => Iff.rfl)]
theorem MJ {t : TypeId} {parts : Array (Nat × Operand)} : aL E ops (⟨d, .build t parts, ty, pos, af, none⟩ :: os) K ⟨f, rows, clk⟩ = aU (fun v => o7 (E.ty t) (parts.toList.map fun x => (x.1, aR f x.2)) v) fun v => aL E ops os K ⟨put f d v, rows, clk⟩ := by
 simp only [aL, dU, ys, yv]
 rw [bX (k := fun v => o7 (E.ty t) (parts.toList.map fun x => (x.1, aR f x.2)) v) (fun v => Iff.rfl)]
theorem ML {t : TypeId} {x y : Operand} : aL E ops (⟨d, .index t x y, ty, pos, af, none⟩ :: os) K ⟨f, rows, clk⟩ = aU (fun v => rW (E.ty t) (aR f x) (aR f y) v) fun v => aL E ops os K ⟨put f d v, rows, clk⟩ := by
 simp only [aL, dU, ys, yv]
 rw [bX (k := fun v => rW (E.ty t) (aR f x) (aR f y) v) (fun v => Iff.rfl)]
theorem XN {t : TypeId} {x : Operand} : aL E ops (⟨d, .call { callee := .builtin .len, args := ⟨[x]⟩, argTypes := ⟨[t]⟩ }, ty, pos, af, none⟩ :: os) K ⟨f, rows, clk⟩ = aU (fun v => vP (E.ty t) rows (aR f x) v) fun v => aL E ops os K ⟨put f d v, rows, clk⟩ := by
 simp only [aL, dU, ys, yv]
 rw [bX (k := fun v => vP (E.ty t) rows (aR f x) v) (fun v => Iff.rfl)]
theorem BN {x : Operand} : aL E ops (⟨d, .nilCheck x, ty, pos, af, none⟩ :: os) K ⟨f, rows, clk⟩ = aU (fun v => BF rows (aR f x) v) fun v => aL E ops os K ⟨put f d v, rows, clk⟩ := by
 simp only [aL, dU, ys, yv]
 rw [bX (k := fun v => BF rows (aR f x) v) (fun v => Iff.rfl)]
theorem XO {ts : Array TypeId} {x y : Operand} : aL E ops (⟨d, .call { callee := .builtin .max, args := ⟨[x, y]⟩, argTypes := ts }, ty, pos, af, none⟩ :: os) K ⟨f, rows, clk⟩ = aU (fun v => LK (aR f x) (aR f y) v) fun v => aL E ops os K ⟨put f d v, rows, clk⟩ := by
 simp only [aL, dU, ys, yv]
 rw [bX (fun v => Iff.rfl)]
theorem XP {ts : Array TypeId} {x y : Operand} : aL E ops (⟨d, .call { callee := .builtin .min, args := ⟨[x, y]⟩, argTypes := ts }, ty, pos, af, none⟩ :: os) K ⟨f, rows, clk⟩ = aU (fun v => LM (aR f x) (aR f y) v) fun v => aL E ops os K ⟨put f d v, rows, clk⟩ := by
 simp only [aL, dU, ys, yv]
 rw [bX (fun v => Iff.rfl)]
theorem xA {t : TypeId} {len : Nat} {parts : Array (Nat × Operand)} : aL E ops (⟨d, .buildSlice t len parts, ty, pos, af, none⟩ :: os) K ⟨f, rows, clk⟩ = aU (fun v => LZ (E.ty t) rows len (parts.toList.map fun x => (x.1, aR f x.2)) v) fun v => aL E ops os K ⟨put f d v, rows, clk⟩ := by
 simp only [aL, dU, ys]
 rw [bX (fun v => Iff.rfl)]
theorem MM {t : TypeId} {p x : Operand} : aL E ops (⟨none, .store t p x, ty, pos, af, none⟩ :: os) K ⟨f, rows, clk⟩ = ∃ id r, pB E t rows (aR f p) (aR f x) .undef (some (id, r)) ∧ aL E ops os K ⟨f, dE rows id (some r), clk⟩ := by
 simp only [aL, dU, ys]
 apply propext
 constructor
 ·rintro ⟨v, u, h, h2⟩
  have h' := h
  obtain ⟨_, rfl, h3⟩ := h
  split at h3
  ·obtain ⟨_, _, _, _, _, _, _, _, _, _, rfl⟩ := h3
   exact ⟨_, _, h', h2⟩
  ·exact h3.elim
 ·rintro ⟨id, r, h, h2⟩; exact ⟨.undef, some (id, r), h, h2⟩
theorem MN {t : TypeId} : aL E ops (⟨d, .alloc t, ty, pos, af, none⟩ :: os) K ⟨f, rows, clk⟩ = aH ((E.ty t).known = true) (aL E ops os K ⟨put f d (.ptr (d.getD 0) clk 0 0), dE rows (d.getD 0) (some ⟨clk, t, (E.ty t).size, [(E.ty t).zero]⟩), clk + 1⟩) := rfl
theorem XQ {t : TypeId} {x : Operand} : aL E ops (⟨d, .box t x, ty, pos, af, none⟩ :: os) K ⟨f, rows, clk⟩ = aH ((E.ty t).known = true) (∃ l, bO (aR f x) = some l ∧ (∀ q ∈ l, gW rows q) ∧ l.length = (E.ty t).size ∧ aL E ops os K ⟨put f d (.ptr (d.getD 0) clk 0 0), dE rows (d.getD 0) (some ⟨clk, t, (E.ty t).size, [l]⟩), clk + 1⟩) := rfl
def pG (t : TI) (x y : PV) (K : TypeId → Nat → List PV → Int → Prop) : Prop :=
 match t, x, y with
 | .slice e n b z, .int _ x, .int _ y => aH (0 ≤ x ∧ x ≤ y ∧ y.toNat ≤ room ∧ y.toNat * b ≤ room) (K e n z x)
 | _, _, _ => False
theorem yZ {t : TypeId} {l c : Operand} : aL E ops (⟨d, .makeSlice t l c, ty, pos, af, none⟩ :: os) K ⟨f, rows, clk⟩ = pG (E.ty t) (aR f l) (aR f c) fun e n z x => aL E ops os K ⟨put f d (.own (d.getD 0) clk 0 x.toNat), dE rows (d.getD 0) (some ⟨clk, e, n, List.replicate x.toNat z⟩), clk + 1⟩ := by
 simp only [aL, dU, pG, EK]
 generalize E.ty t = T
 generalize aR f l = A
 generalize aR f c = B
 cases T with
 | slice e n b z =>
  cases A with
  | int k x =>
   cases B with
   | int k2 y => simp only [aH, and_assoc]
   | _ => rfl
  | _ => rfl
 | _ => rfl
def TD (t : TI) (rows : Rows) (x y : PV) (clk d : Nat) (K : PV → Rows → Nat → Prop) : Prop :=
 match t with
 | .slice e n b _ =>
  ∃ l, s5 rows y l ∧ (∀ e ∈ l, e.length = n) ∧
  match x with
  | .nil => aH (l.length ≤ room ∧ l.length * b ≤ room) (K (.own d clk 0 l.length) (dE rows d (some ⟨clk, e, n, l⟩)) (clk + 1))
  | .own id ver off len => ∃ r, rows id = some r ∧ r.ver = ver ∧ off = 0 ∧ len = r.els.length ∧ r.e = e ∧ r.size = n ∧ aH (len + l.length ≤ room ∧ (len + l.length) * b ≤ room) (K (.own id clk 0 (len + l.length)) (dE rows id (some ⟨clk, e, n, r.els ++ l⟩)) (clk + 1))
  | .iZ l0 => (∀ e ∈ l0, e.length = n) ∧ (∀ e ∈ l, ∀ p ∈ e, bY p = true) ∧ aH (l0.length + l.length ≤ room ∧ (l0.length + l.length) * b ≤ room) (K (.sl (l0 ++ l)) rows clk)
  | _ => False
 | _ => False
theorem HR {t t2 : TypeId} {x y : Operand} : aL E ops (⟨d, .call { callee := .builtin .append, args := ⟨[x, y]⟩, argTypes := ⟨[t, t2]⟩ }, ty, pos, af, none⟩ :: os) K ⟨f, rows, clk⟩ =
  aH (t2 = t ∨ WN (E.ty t2) = true) (TD (E.ty t) rows (aR f x) (aR f y) clk (d.getD 0) fun v rows clk => aL E ops os K ⟨put f d v, rows, clk⟩) := by
 simp only [aL, dU, EL, TD, EK, aH, PS.put]
 congr 1
 generalize E.ty t = T
 generalize aR f x = A
 cases T with
 | slice e n b z =>
  simp only
  congr 1
  funext l
  congr 2
  cases A with
  | nil => simp only [and_assoc]
  | own id ver off len => simp only [and_assoc]
  | iZ l0 => simp only [and_assoc]
  | _ => rfl
 | _ => rfl
end
def s8 (P : Program) (g : FuncId) (args : List PV) (K : PV → Prop) : Prop := ∃ v, aI P g args v ∧ K v
@[congr] theorem afr {P : Program} {g : FuncId} {args HS : List PV} {K : PV → Prop} (h : args = HS) : s8 P g args K = s8 P g HS K := by rw [h]
def pH (E : Env) (p : PV) (fI : List PV) (rows : Rows) (clk : Nat) (K : PV → Rows → Nat → Prop) : Prop :=
 match p with
 | .fn g bR => if E.writes g = true then bR = [] ∧ vV E.P g fI rows clk K else aH ((fI.map (pz rows)).all eY = true ∧ dM rows (fI.flatMap dA)) (s8 E.P g (fI.map (pz rows) ++ bR) fun v => K v (CL rows (fI.flatMap dA)) clk)
 | _ => False
@[congr] theorem acJ {E : Env} {p p' : PV} {fI wC : List PV} {rows rows' : Rows} {clk jT : Nat} {K : PV → Rows → Nat → Prop} (h1 : p = p') (h2 : fI = wC) (h3 : rows = rows') (h4 : clk = jT) : pH E p fI rows clk K = pH E p' wC rows' jT K := by rw [h1, h2, h3, h4]
@[congr] theorem afs {P : Program} {g : FuncId} {fI wC : List PV} {rows : Rows} {clk : Nat} {K : PV → Rows → Nat → Prop} (h : fI = wC) : vV P g fI rows clk K = vV P g wC rows clk K := by rw [h]
@[congr] theorem afu {t t' : TI} {x x' y y' : PV} {K : TypeId → Nat → List PV → Int → Prop} (h1 : t = t') (h2 : x = x') (h3 : y = y') : pG t x y K = pG t' x' y' K := by rw [h1, h2, h3]
@[congr] theorem ahO {t t' : TI} {rows rows' : Rows} {x x' y y' : PV} {clk jT d d' : Nat} {K : PV → Rows → Nat → Prop} (h1 : t = t') (h2 : rows = rows') (h3 : x = x') (h4 : y = y') (h5 : clk = jT) (h6 : d = d') :
  TD t rows x y clk d K = TD t' rows' x' y' jT d' K := by rw [h1, h2, h3, h4, h5, h6]
section
variable {E : Env} {ops os : List Oper} {K : PS → Prop} {f : Nat → PV} {rows : Rows} {clk : Nat} {d : Option Tmp} {ty : TypeId} {pos : String} {af : Array Edge}
theorem TE {fo : Operand} {args : Array Operand} {ts : Array TypeId} : aL E ops (⟨d, .call { callee := .value fo, args := args, argTypes := ts }, ty, pos, af, none⟩ :: os) K ⟨f, rows, clk⟩ =
  pH E (aR f fo) (args.toList.map (aR f)) rows clk fun v rows clk => aL E ops os K ⟨put f d v, rows, clk⟩ := by
 simp only [aL, dU, vW, pH, L0, aH, s8]
 generalize aR f fo = A
 have e1 : (args.toList.map fun x => pz rows (aR f x)) = (args.toList.map (aR f)).map (pz rows) := by rw [List.map_map]; rfl
 have e2 : (args.toList.flatMap fun x => dA (aR f x)) = (args.toList.map (aR f)).flatMap dA := by rw [List.flatMap_map]
 rw [e1, e2]
 cases A with
 | fn g bR =>
  have hm : ahn E (.fn g bR) = E.writes g := rfl
  by_cases hw : E.writes g = true
  ·rw [hm, if_pos hw]
   cases bR with
   | nil => simp [hw]
   | cons x l => simp [hw]
  rw [hm, if_neg hw]
  simp only [if_neg hw]
  apply propext
  constructor
  ·rintro ⟨v, ⟨h1, h2⟩, h3, h4⟩; exact ⟨⟨h1, h3⟩, v, h2, h4⟩
  ·rintro ⟨⟨h1, h3⟩, v, h2, h4⟩; exact ⟨v, ⟨h1, h2⟩, h3, h4⟩
 | _ => simp [ahn]
theorem BO {g : FuncId} {bR : Array Operand} : aL E ops (⟨d, .makeFunc (.func g) ⟨[]⟩ bR, ty, pos, af, none⟩ :: os) K ⟨f, rows, clk⟩ =
  aH (((bR.toList.map (aR f)).map (pz rows)).all eY = true ∧ dM rows ((bR.toList.map (aR f)).flatMap dA))
   (aL E ops os K ⟨put f d (.fn g ((bR.toList.map (aR f)).map (pz rows))), CL rows ((bR.toList.map (aR f)).flatMap dA), clk⟩) := by
 simp only [aL, dU, aH, and_assoc]
 have e1 : (bR.toList.map fun x => pz rows (aR f x)) = (bR.toList.map (aR f)).map (pz rows) := by rw [List.map_map]; rfl
 have e2 : (bR.toList.flatMap fun x => dA (aR f x)) = (bR.toList.map (aR f)).flatMap dA := by rw [List.flatMap_map]
 rw [e1, e2]
def kA (k : Nat) (l : List Nat) (t : Nat → Nat → Prop) : Nat → Nat → Prop := fun k' id => (true = true ∧ k' = k ∧ id ∈ l) ∨ t k' id
def nS (k id : Nat) (w : Nat → Nat → Prop) : Nat → Nat → Prop := fun k' iW => (k' = k ∧ iW = id) ∨ w k' iW
variable {k : Nat} {bL : Nat → Nat → Prop} {aO : Nat → Nat → Prop}
theorem MO {op : Op} {j : Nat} {want : Bool} : aN E ops clk k (⟨d, op, ty, pos, af, some (j, want)⟩ :: os) K ⟨f, rows, bL, aO⟩ =
  match (ops[j]?).bind (·.dst) with
  | none => False
  | some e => stepG (f e) want (aN E ops clk k (⟨d, op, ty, pos, af, none⟩ :: os) K ⟨f, rows, bL, aO⟩) (aN E ops clk (k + 1) os K ⟨put f d (.eP []), rows, bL, aO⟩) := by
 have e3 : app k ⟨d, op, ty, pos, af, some (j, want)⟩ false (.eP []) none ⟨f, rows, bL, aO⟩ = ⟨put f d (.eP []), rows, bL, aO⟩ := by simp [app, fE, wlU]
 simp only [aN, e3]
 cases hx : (ops[j]?).bind (·.dst) with
 | none => rfl
 | some e => rfl
theorem cG {o : Oper} {R : PV → Prop} {kk : PV → Prop} {st : ST} (h : ∀ v, R v ↔ kk v) : (∃ v u, (R v ∧ u = none) ∧ SY .any ops k u bL ∧ aN E ops clk (k + 1) os K (app k o true v u st)) = aU kk fun v => aN E ops clk (k + 1) os K (app k o true v none st) := by
 apply propext; simp only [aU]
 constructor
 ·rintro ⟨v, u, ⟨h1, rfl⟩, _, h2⟩; exact ⟨v, (h v).1 h1, h2⟩
 ·rintro ⟨v, h1, h2⟩; exact ⟨v, none, ⟨(h v).2 h1, rfl⟩, trivial, h2⟩
theorem eB {op : Op} {v : PV} (h : gP op (aR f) = []) : app k ⟨d, op, ty, pos, af, none⟩ true v none ⟨f, rows, bL, aO⟩ = ⟨put f d v, rows, bL, aO⟩ := by simp [app, fE, wlU, h]
theorem qK {op : Op} {v : PV} {l : List Nat} (h : gP op (aR f) = l) : app k ⟨d, op, ty, pos, af, none⟩ true v none ⟨f, rows, bL, aO⟩ = ⟨put f d v, rows, kA k l bL, aO⟩ := by subst h; rfl
theorem TF {x : Operand} : aN E ops clk k (⟨d, .move x, ty, pos, af, none⟩ :: os) K ⟨f, rows, bL, aO⟩ = aN E ops clk (k + 1) os K ⟨put f d (aR f x), rows, bL, aO⟩ := by
 simp only [aN, yn, gQ, ys, yv]
 rw [cG (kk := fun v => v = aR f x) (fun v => Iff.rfl), i5, eB rfl]
theorem HT {x : Operand} : aN E ops clk k (⟨d, .assign x, ty, pos, af, none⟩ :: os) K ⟨f, rows, bL, aO⟩ = aN E ops clk (k + 1) os K ⟨put f d (aR f x), rows, bL, aO⟩ := by
 simp only [aN, yn, gQ, ys, yv]
 rw [cG (kk := fun v => v = aR f x) (fun v => Iff.rfl), i5, eB rfl]
theorem TG {c a b : Operand} : aN E ops clk k (⟨d, .pick c a b, ty, pos, af, none⟩ :: os) K ⟨f, rows, bL, aO⟩ = gM (aR f c) true (aN E ops clk (k + 1) os K ⟨put f d (aR f a), rows, bL, aO⟩) (aN E ops clk (k + 1) os K ⟨put f d (aR f b), rows, bL, aO⟩) := by
 simp only [aN, yn, gQ, ys, yv]
 rw [cG (fun v => Iff.rfl)]
 apply propext; simp only [aU, gM, eB (op := .pick c a b) rfl]
 constructor
 ·rintro ⟨v, ⟨t, h1, rfl⟩, h2⟩
  refine ⟨t, h1, fun h => ?_, fun h => ?_⟩
  ·subst h; exact h2
  ·subst h; exact h2
 ·rintro ⟨t, h1, h2, h3⟩
  cases t with
  | true => exact ⟨_, ⟨true, h1, rfl⟩, h2 rfl⟩
  | false => exact ⟨_, ⟨false, h1, rfl⟩, h3 rfl⟩
theorem XR {op : BinOp} {t t2 : TypeId} {x y : Operand} : aN E ops clk k (⟨d, .binOp op t x y t2, ty, pos, af, none⟩ :: os) K ⟨f, rows, bL, aO⟩ = aU (fun v => EA E op t (aR f x) (aR f y) v) fun v => aN E ops clk (k + 1) os K ⟨put f d v, rows, bL, aO⟩ := by
 simp only [aN, yn, gQ, ys, yv]; rw [cG (fun v => Iff.rfl)]; simp only [eB (op := .binOp op t x y t2) rfl]
theorem acK {op : UnOp} {t : TypeId} {x : Operand} : aN E ops clk k (⟨d, .unOp op t x, ty, pos, af, none⟩ :: os) K ⟨f, rows, bL, aO⟩ = aU (fun v => yun op (aR f x) v) fun v => aN E ops clk (k + 1) os K ⟨put f d v, rows, bL, aO⟩ := by
 simp only [aN, yn, gQ, ys, yv]; rw [cG (fun v => Iff.rfl)]; simp only [eB (op := .unOp op t x) rfl]
theorem TH {s t : TypeId} {x : Operand} : aN E ops clk k (⟨d, .convert s t x, ty, pos, af, none⟩ :: os) K ⟨f, rows, bL, aO⟩ = aU (fun v => rI (E.ty s) (E.ty t) (aR f x) v) fun v => aN E ops clk (k + 1) os K ⟨put f d v, rows, bL, aO⟩ := by
 simp only [aN, yn, gQ, ys, yv]; rw [cG (fun v => Iff.rfl)]; simp only [eB (op := .convert s t x) rfl]
theorem EU {i : Nat} {x : Operand} : aN E ops clk k (⟨d, .extract x i, ty, pos, af, none⟩ :: os) K ⟨f, rows, bL, aO⟩ = aU (fun v => LI i (aR f x) v) fun v => aN E ops clk (k + 1) os K ⟨put f d v, rows, bL, aO⟩ := by
 simp only [aN, yn, gQ, ys, yv]; rw [cG (fun v => Iff.rfl)]; simp only [eB (op := .extract x i) rfl]
theorem TJ {t : TypeId} {x : Operand} : aN E ops clk k (⟨d, .load t x, ty, pos, af, none⟩ :: os) K ⟨f, rows, bL, aO⟩ = aU (fun v => rG E t (dN .any ops k aO rows) (aR f x) v) fun v => aN E ops clk (k + 1) os K ⟨put f d v, rows, kA k (aZ (aR f x)) bL, aO⟩ := by
 simp only [aN, yn, gQ, ys, yv]; rw [cG (fun v => Iff.rfl)]; simp only [qK (op := .load t x) rfl]; rfl
theorem MP {t : TypeId} {i : Nat} {x : Operand} : aN E ops clk k (⟨d, .field t x i, ty, pos, af, none⟩ :: os) K ⟨f, rows, bL, aO⟩ = aU (fun v => rV E t i (aR f x) v) fun v => aN E ops clk (k + 1) os K ⟨put f d v, rows, bL, aO⟩ := by
 simp only [aN, yn, gQ, ys, yv]; rw [cG (fun v => Iff.rfl)]; simp only [eB (op := .field t x i) rfl]
theorem y3 {t : TypeId} {i : Nat} {x : Operand} : aN E ops clk k (⟨d, .fieldAddr t x i, ty, pos, af, none⟩ :: os) K ⟨f, rows, bL, aO⟩ = aU (fun v => eG E t (dN .any ops k aO rows) i (aR f x) v) fun v => aN E ops clk (k + 1) os K ⟨put f d v, rows, kA k (aZ (aR f x)) bL, aO⟩ := by
 simp only [aN, yn, gQ, ys, yv]; rw [cG (fun v => Iff.rfl)]; simp only [qK (op := .fieldAddr t x i) rfl]; rfl
theorem y4 {t : TypeId} {x y : Operand} : aN E ops clk k (⟨d, .indexAddr t x y, ty, pos, af, none⟩ :: os) K ⟨f, rows, bL, aO⟩ = aU (fun v => eH E t (dN .any ops k aO rows) (aR f x) (aR f y) v) fun v => aN E ops clk (k + 1) os K ⟨put f d v, rows, kA k (aZ (aR f x)) bL, aO⟩ := by
 simp only [aN, yn, gQ, ys, yv]; rw [cG (fun v => Iff.rfl)]; simp only [qK (op := .indexAddr t x y) rfl]; rfl
theorem MQ {t : TypeId} {x : Operand} {lo hi mx : Option Operand} : aN E ops clk k (⟨d, .slice t x lo hi mx, ty, pos, af, none⟩ :: os) K ⟨f, rows, bL, aO⟩ = aU (fun v => mM E t (dN .any ops k aO rows) (aR f x) (lo.map (aR f)) (hi.map (aR f)) (mx.map (aR f)) v) fun v => aN E ops clk (k + 1) os K ⟨put f d v, rows, kA k (aZ (aR f x)) bL, aO⟩ := by
 simp only [aN, yn, gQ, ys, yv]; rw [cG (fun v => Iff.rfl)]; simp only [qK (op := .slice t x lo hi mx) rfl]; rfl
theorem MR {t : TypeId} {parts : Array (Nat × Operand)} : aN E ops clk k (⟨d, .build t parts, ty, pos, af, none⟩ :: os) K ⟨f, rows, bL, aO⟩ = aU (fun v => o7 (E.ty t) (parts.toList.map fun x => (x.1, aR f x.2)) v) fun v => aN E ops clk (k + 1) os K ⟨put f d v, rows, bL, aO⟩ := by
 simp only [aN, yn, gQ, ys, yv]; rw [cG (fun v => Iff.rfl)]; simp only [eB (op := .build t parts) rfl]
theorem XS {t : TypeId} {x : Operand} : aN E ops clk k (⟨d, .call { callee := .builtin .len, args := ⟨[x]⟩, argTypes := ⟨[t]⟩ }, ty, pos, af, none⟩ :: os) K ⟨f, rows, bL, aO⟩ = aU (fun v => vP (E.ty t) (dN .any ops k aO rows) (aR f x) v) fun v => aN E ops clk (k + 1) os K ⟨put f d v, rows, kA k (aZ (aR f x)) bL, aO⟩ := by
 simp only [aN, yn, gQ, ys, yv]; rw [cG (fun v => Iff.rfl)]; simp only [qK (op := .call { callee := .builtin .len, args := ⟨[x]⟩, argTypes := ⟨[t]⟩ }) rfl]; rfl
theorem BP {x : Operand} : aN E ops clk k (⟨d, .nilCheck x, ty, pos, af, none⟩ :: os) K ⟨f, rows, bL, aO⟩ = aU (fun v => BF (dN .any ops k aO rows) (aR f x) v) fun v => aN E ops clk (k + 1) os K ⟨put f d v, rows, kA k (aZ (aR f x)) bL, aO⟩ := by
 simp only [aN, yn, gQ, ys, yv]; rw [cG (fun v => Iff.rfl)]; simp only [qK (op := .nilCheck x) rfl]; rfl
theorem XT {ts : Array TypeId} {x y : Operand} : aN E ops clk k (⟨d, .call { callee := .builtin .max, args := ⟨[x, y]⟩, argTypes := ts }, ty, pos, af, none⟩ :: os) K ⟨f, rows, bL, aO⟩ = aU (fun v => LK (aR f x) (aR f y) v) fun v => aN E ops clk (k + 1) os K ⟨put f d v, rows, bL, aO⟩ := by
 simp only [aN, yn, gQ, ys, yv]; rw [cG (fun v => Iff.rfl)]; simp only [eB (op := .call { callee := .builtin .max, args := ⟨[x, y]⟩, argTypes := ts }) rfl]
theorem XU {ts : Array TypeId} {x y : Operand} : aN E ops clk k (⟨d, .call { callee := .builtin .min, args := ⟨[x, y]⟩, argTypes := ts }, ty, pos, af, none⟩ :: os) K ⟨f, rows, bL, aO⟩ = aU (fun v => LM (aR f x) (aR f y) v) fun v => aN E ops clk (k + 1) os K ⟨put f d v, rows, bL, aO⟩ := by
 simp only [aN, yn, gQ, ys, yv]; rw [cG (fun v => Iff.rfl)]; simp only [eB (op := .call { callee := .builtin .min, args := ⟨[x, y]⟩, argTypes := ts }) rfl]
theorem BQ {g : FuncId} {bR : Array Operand} : aN E ops clk k (⟨d, .makeFunc (.func g) ⟨[]⟩ bR, ty, pos, af, none⟩ :: os) K ⟨f, rows, bL, aO⟩ = aH ((bR.toList.map fun x => aR f x).all eY = true) (aN E ops clk (k + 1) os K ⟨put f d (.fn g (bR.toList.map fun x => aR f x)), rows, bL, aO⟩) := by
 simp only [aN, yn, gQ, ys, yv]
 rw [cG (fun v => Iff.rfl), iN, i5]; simp only [eB (op := .makeFunc (.func g) ⟨[]⟩ bR) rfl]
theorem xB {t : TypeId} {len : Nat} {parts : Array (Nat × Operand)} : aN E ops clk k (⟨d, .buildSlice t len parts, ty, pos, af, none⟩ :: os) K ⟨f, rows, bL, aO⟩ = aU (fun v => LZ (E.ty t) (dN .any ops k aO rows) len (parts.toList.map fun x => (x.1, aR f x.2)) v) fun v => aN E ops clk (k + 1) os K ⟨put f d v, rows, bL, aO⟩ := by
 simp only [aN, yn, gQ, ys]; rw [cG (fun v => Iff.rfl)]; simp only [eB (op := .buildSlice t len parts) rfl]
theorem MS {t : TypeId} {p x : Operand} : aN E ops clk k (⟨none, .store t p x, ty, pos, af, none⟩ :: os) K ⟨f, rows, bL, aO⟩ =
  ∃ id r, pB E t (dN .any ops k aO rows) (aR f p) (aR f x) .undef (some (id, r)) ∧ yQ .any ops k id bL ∧ aN E ops clk (k + 1) os K ⟨f, dE rows id (some r), kA k (aZ (aR f p) ++ ((bO (aR f x)).getD []).flatMap aZ) bL, nS k id aO⟩ := by
 simp only [aN, yn, gQ, ys]
 apply propext
 constructor
 ·rintro ⟨v, u, h, h1, h2⟩
  have h' := h
  obtain ⟨_, rfl, h3⟩ := h
  split at h3
  ·obtain ⟨_, _, _, _, _, _, _, _, _, _, rfl⟩ := h3
   exact ⟨_, _, h', h1, h2⟩
  ·exact h3.elim
 ·rintro ⟨id, r, h, h1, h2⟩; exact ⟨.undef, some (id, r), h, h1, h2⟩
theorem XV {o : Oper} {R : PV → Option (Nat × Row) → Prop} {C : Prop} {v0 : PV} {e : Nat} {r0 : Row} {st : ST} {jT : Nat} (h : ∀ v u, R v u ↔ (C ∧ v = v0 ∧ u = some (e, r0))) : (∃ v u, R v u ∧ SY .any ops k u bL ∧ aN E ops jT (k + 1) os K (app k o true v u st)) = aH (C ∧ yQ .any ops k e bL) (aN E ops jT (k + 1) os K (app k o true v0 (some (e, r0)) st)) := by
 apply propext; simp only [aH]
 constructor
 ·rintro ⟨v, u, h1, h2, h3⟩
  obtain ⟨hc, rfl, rfl⟩ := (h v u).1 h1
  exact ⟨⟨hc, h2⟩, h3⟩
 ·rintro ⟨⟨h1, h2⟩, h3⟩; exact ⟨v0, _, (h _ _).2 ⟨h1, rfl, rfl⟩, h2, h3⟩
theorem s9 {op : Op} {v : PV} {e : Nat} {r0 : Row} (h : gP op (aR f) = []) : app k ⟨d, op, ty, pos, af, none⟩ true v (some (e, r0)) ⟨f, rows, bL, aO⟩ = ⟨put f d v, dE rows e (some r0), bL, nS k e aO⟩ := by simp only [app, fE, wlU, h, List.not_mem_nil, and_false, false_or]; rfl
theorem MT {t : TypeId} : aN E ops clk k (⟨d, .alloc t, ty, pos, af, none⟩ :: os) K ⟨f, rows, bL, aO⟩ = aH ((E.ty t).known = true ∧ yQ .any ops k (d.getD 0) bL) (aN E ops (clk + 1) (k + 1) os K ⟨put f d (.ptr (d.getD 0) clk 0 0), dE rows (d.getD 0) (some ⟨clk, t, (E.ty t).size, [(E.ty t).zero]⟩), bL, nS k (d.getD 0) aO⟩) := by
 simp only [aN, yn, gQ]
 rw [XV (C := (E.ty t).known = true) (v0 := .ptr (d.getD 0) clk 0 0) (e := d.getD 0) (r0 := ⟨clk, t, (E.ty t).size, [(E.ty t).zero]⟩) (fun v u => by simp), s9 (op := .alloc t) rfl]
theorem XW {t : TypeId} {x : Operand} : aN E ops clk k (⟨d, .box t x, ty, pos, af, none⟩ :: os) K ⟨f, rows, bL, aO⟩ = aH ((E.ty t).known = true) (∃ l, bO (aR f x) = some l ∧ ((∀ q ∈ l, gW (fun _ => none) q) ∧ l.length = (E.ty t).size ∧ yQ .any ops k (d.getD 0) bL) ∧
  aN E ops (clk + 1) (k + 1) os K ⟨put f d (.ptr (d.getD 0) clk 0 0), dE rows (d.getD 0) (some ⟨clk, t, (E.ty t).size, [l]⟩), bL, nS k (d.getD 0) aO⟩) := by
 simp only [aN, yn, gQ]
 apply propext
 constructor
 ·rintro ⟨v, u, ⟨h1, l, h2, h3, h4, rfl, rfl⟩, h5, h6⟩
  rw [s9 (op := .box t x) rfl] at h6
  exact ⟨h1, l, h2, ⟨h3, h4, h5⟩, h6⟩
 ·rintro ⟨h1, l, h2, ⟨h3, h4, h5⟩, h6⟩
  refine ⟨_, _, ⟨h1, l, h2, h3, h4, rfl, rfl⟩, h5, ?_⟩
  rw [s9 (op := .box t x) rfl]; exact h6
theorem y5 {t : TypeId} {l c : Operand} : aN E ops clk k (⟨d, .makeSlice t l c, ty, pos, af, none⟩ :: os) K ⟨f, rows, bL, aO⟩ = pG (E.ty t) (aR f l) (aR f c) fun e n z x => aH (yQ .any ops k (d.getD 0) bL) (aN E ops (clk + 1) (k + 1) os K ⟨put f d (.own (d.getD 0) clk 0 x.toNat), dE rows (d.getD 0) (some ⟨clk, e, n, List.replicate x.toNat z⟩), bL, nS k (d.getD 0) aO⟩) := by
 have WH : ∀ {v e' r0}, app k ⟨d, .makeSlice t l c, ty, pos, af, none⟩ true v (some (e', r0)) ⟨f, rows, bL, aO⟩ = ⟨put f d v, dE rows e' (some r0), bL, nS k e' aO⟩ := s9 rfl
 simp only [aN, yn, gQ, pG]
 generalize E.ty t = T
 generalize aR f l = A
 generalize aR f c = B
 cases T with
 | slice e n b z =>
  cases A with
  | int k1 x =>
   cases B with
   | int k2 y =>
    apply propext
    simp only [aH]
    constructor
    ·rintro ⟨v, u, ⟨h1, h2, h3, h4, rfl, rfl⟩, h5, h6⟩
     rw [WH] at h6
     exact ⟨⟨h1, h2, h3, h4⟩, h5, h6⟩
    ·rintro ⟨⟨h1, h2, h3, h4⟩, h5, h6⟩
     refine ⟨_, _, ⟨h1, h2, h3, h4, rfl, rfl⟩, h5, ?_⟩
     rw [WH]; exact h6
   | _ => simp
  | _ => simp
 | _ => simp
theorem HU {t t2 : TypeId} {x y : Operand} : aN E ops clk k (⟨d, .call { callee := .builtin .append, args := ⟨[x, y]⟩, argTypes := ⟨[t, t2]⟩ }, ty, pos, af, none⟩ :: os) K ⟨f, rows, bL, aO⟩ =
  aH (t2 = t ∨ WN (E.ty t2) = true) (∃ v id r, pE (E.ty t) (dN .any ops k aO rows) (aR f x) (aR f y) clk (d.getD 0) v (some (id, r)) ∧ yQ .any ops k id bL ∧
   aN E ops (clk + 1) (k + 1) os K ⟨put f d v, dE rows id (some r), kA k (aZ (aR f x) ++ aZ (aR f y)) bL, nS k id aO⟩) := by
 have WH : ∀ {v e' r0}, app k ⟨d, .call { callee := .builtin .append, args := ⟨[x, y]⟩, argTypes := ⟨[t, t2]⟩ }, ty, pos, af, none⟩ true v (some (e', r0)) ⟨f, rows, bL, aO⟩ = ⟨put f d v, dE rows e' (some r0), kA k (aZ (aR f x) ++ aZ (aR f y)) bL, nS k e' aO⟩ := rfl
 simp only [aN, yn, gQ, aH]
 apply propext
 constructor
 ·rintro ⟨v, u, ⟨h1, h2⟩, h3, h4⟩
  refine ⟨h1, ?_⟩
  have h2' := h2
  unfold pE at h2'
  split at h2'
  ·obtain ⟨l, g1, g2, g3⟩ := h2'
   split at g3
   ·obtain ⟨_, _, rfl, rfl⟩ := g3
    exact ⟨_, _, _, h2, h3, h4⟩
   ·obtain ⟨r, _, _, _, _, _, _, _, _, rfl, rfl⟩ := g3
    exact ⟨_, _, _, h2, h3, h4⟩
   ·exact g3.elim
  ·exact h2'.elim
 ·rintro ⟨h1, v, id, r, h2, h3, h4⟩
  exact ⟨v, _, ⟨h1, h2⟩, h3, h4⟩
def nT (E : Env) (p : PV) (fI : List PV) (rows : Rows) (K : PV → Prop) : Prop :=
 match p with
 | .fn g bR => aH ((fI.map (pz rows)).all eY = true ∧ fI.flatMap dA = []) (s8 E.P g (fI.map (pz rows) ++ bR) K)
 | _ => False
@[congr] theorem acL {E : Env} {p p' : PV} {fI wC : List PV} {rows rows' : Rows} {K : PV → Prop} (h1 : p = p') (h2 : fI = wC) (h3 : rows = rows') : nT E p fI rows K = nT E p' wC rows' K := by rw [h1, h2, h3]
theorem CR {fo : Operand} {args : Array Operand} {ts : Array TypeId} (hfo : cT E (.call { callee := .value fo, args := args, argTypes := ts }) = false) : aN E ops clk k (⟨d, .call { callee := .value fo, args := args, argTypes := ts }, ty, pos, af, none⟩ :: os) K ⟨f, rows, bL, aO⟩ =
  nT E (aR f fo) (args.toList.map (aR f)) (dN .any ops k aO rows) fun v => aN E ops clk (k + 1) os K ⟨put f d v, rows, bL, aO⟩ := by
 simp only [aN]
 rw [yR hfo]
 simp only [yP hfo, ys, vW, nT, aH, s8]
 generalize hA : aR f fo = A
 have e1 : (args.toList.map fun x => pz (dN .any ops k aO rows) (aR f x)) = (args.toList.map (aR f)).map (pz (dN .any ops k aO rows)) := by rw [List.map_map]; rfl
 have e2 : (args.toList.flatMap fun x => dA (aR f x)) = (args.toList.map (aR f)).flatMap dA := by rw [List.flatMap_map]
 rw [e1, e2]
 have e3 : ∀ v, app k ⟨d, .call { callee := .value fo, args := args, argTypes := ts }, ty, pos, af, none⟩ true v none ⟨f, rows, bL, aO⟩ = ⟨put f d v, rows, bL, aO⟩ := fun v => eB rfl
 cases A with
 | fn g bR =>
  apply propext
  constructor
  ·rintro ⟨v, u, ⟨rfl, ⟨h1, h2⟩, h3⟩, _, h4⟩; rw [e3] at h4; exact ⟨⟨h1, h3⟩, v, h2, h4⟩
  ·rintro ⟨⟨h1, h3⟩, v, h2, h4⟩; exact ⟨v, none, ⟨rfl, ⟨h1, h2⟩, h3⟩, trivial, by rw [e3]; exact h4⟩
 | _ => simp
theorem MU {g : FuncId} {args : Array Operand} {ts : Array TypeId} (hw : E.writes g = true) : aN E ops clk k (⟨d, .call { callee := .value (.func g), args := args, argTypes := ts }, ty, pos, af, none⟩ :: os) K ⟨f, rows, bL, aO⟩ =
  ∃ e n els, ((args.toList.map (aR f)).all eY = true ∧ gG E.P g (args.toList.map (aR f)) e n els ∧ yQ .any ops k (d.getD 0) bL) ∧ aN E ops (clk + 1) (k + 1) os K ⟨put f d (.own (d.getD 0) clk 0 els.length), dE rows (d.getD 0) (some ⟨clk, e, n, els⟩), bL, nS k (d.getD 0) aO⟩ := by
 have WH : ∀ {v e' r0}, app k ⟨d, .call { callee := .value (.func g), args := args, argTypes := ts }, ty, pos, af, none⟩ true v (some (e', r0)) ⟨f, rows, bL, aO⟩ = ⟨put f d v, dE rows e' (some r0), bL, nS k e' aO⟩ := s9 rfl
 simp only [aN, yn, gQ]
 rw [if_pos hw]
 simp only [if_pos hw]
 apply propext
 constructor
 ·rintro ⟨v, u, ⟨h1, e, n, els, h2, rfl, rfl⟩, h3, h4⟩
  rw [WH] at h4
  exact ⟨e, n, els, ⟨h1, h2, h3⟩, h4⟩
 ·rintro ⟨e, n, els, ⟨h1, h2, h3⟩, h4⟩
  refine ⟨_, _, ⟨h1, e, n, els, h2, rfl, rfl⟩, h3, ?_⟩
  rw [WH]; exact h4
@[simp] theorem amS {md : Region.Mode} {ops : List Oper} {j : Nat} {rows : Rows} : dN md ops j (fun _ _ => False) rows = rows := by
 funext id; simp [dN]
@[simp] theorem amT {md : Region.Mode} {ops : List Oper} {j k id : Nat} {w : Nat → Nat → Prop} {rows : Rows} : dN md ops j (nS k id w) rows = if nQ md ops j k = true then dN md ops j w rows else dE (dN md ops j w rows) id none := by
 funext x
 unfold dN nS
 by_cases hd : nQ md ops j k = true
 ·rw [if_pos hd]
  have : (∃ k', ((k' = k ∧ x = id) ∨ w k' x) ∧ nQ md ops j k' = false) ↔ ∃ k', w k' x ∧ nQ md ops j k' = false := by
   constructor
   ·rintro ⟨k', ⟨rfl, _⟩ | h, h2⟩
    ·rw [hd] at h2; cases h2
    ·exact ⟨k', h, h2⟩
   ·rintro ⟨k', h, h2⟩; exact ⟨k', .inr h, h2⟩
  exact (by classical exact ite_congr (propext this) (fun _ => rfl) (fun _ => rfl))
 ·rw [if_neg hd]
  have S3 : nQ md ops j k = false := by simpa using hd
  simp only [dE]
  by_cases hx : x = id
  ·rw [if_pos hx, if_pos ⟨k, .inl ⟨rfl, hx⟩, S3⟩]
  ·rw [if_neg hx]
   have : (∃ k', ((k' = k ∧ x = id) ∨ w k' x) ∧ nQ md ops j k' = false) ↔ ∃ k', w k' x ∧ nQ md ops j k' = false := by
    constructor
    ·rintro ⟨k', ⟨_, h⟩ | h, h2⟩
     ·exact absurd h hx
     ·exact ⟨k', h, h2⟩
    ·rintro ⟨k', h, h2⟩; exact ⟨k', .inr h, h2⟩
   exact (by classical exact ite_congr (propext this) (fun _ => rfl) (fun _ => rfl))
@[simp] theorem aqr {md : Region.Mode} {ops : List Oper} {i id : Nat} : yQ md ops i id (fun _ _ => False) = True := by simp [yQ]
@[simp] theorem aqs {md : Region.Mode} {ops : List Oper} {i id k : Nat} {l : List Nat} {t : Nat → Nat → Prop} : yQ md ops i id (kA k l t) = ((id ∈ l → nQ md ops i k = true) ∧ yQ md ops i id t) := by
 apply propext
 unfold yQ kA
 constructor
 ·intro h; exact ⟨fun hi => h k (.inl ⟨rfl, rfl, hi⟩), fun k' hk => h k' (.inr hk)⟩
 ·rintro ⟨h1, h2⟩ k' (⟨_, rfl, h⟩ | h)
  ·exact h1 h
  ·exact h2 k' h
end
end Pm
