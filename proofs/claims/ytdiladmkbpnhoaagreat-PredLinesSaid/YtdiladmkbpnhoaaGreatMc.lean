import Derived.Test.YtdiladmkbpnhoaaGreatMb
import Derived.StillTail
import Derived.Deep.LoopGhost
set_option linter.unusedSimpArgs false
set_option linter.unusedVariables false
namespace Pm
open Go Go.RowKit
def dep1 (md : Region.Mode) (ops : List Oper) (j k : Nat) : Bool :=
 match ops[j]? with
 | some o => o.after.toList.any fun e => Region.binds md e && e.on == k
 | none => false
def depL (md : Region.Mode) (ops : List Oper) (j k : Nat) : Bool := dep1 md ops j k || (List.range ops.length).any fun h => dep1 md ops j h && dep1 md ops h k
structure ST where
 f : Nat → PV
 rows : Rows
 tch : Nat → Nat → Prop
 wl : Nat → Nat → Prop
def isNew : Op → Bool
 | .alloc _ => true
 | .box _ _ => true
 | .makeSlice _ _ _ => true
 | .call { callee := .builtin .append, args := ⟨[_, _]⟩, argTypes := ⟨[_, _]⟩ } => true
 | _ => false
def newDst (ops : List Oper) : Bool := ops.all fun o => !isNew o.op || (o.dst.isSome && o.guard.isNone)
def rk (ops : List Oper) (i : Nat) : Nat := ((ops.take i).filter fun o => isNew o.op).length
theorem rk_succ {ops : List Oper} {i : Nat} {o : Oper} (h : ops[i]? = some o) : rk ops (i + 1) = rk ops i + if isNew o.op = true then 1 else 0 := by
 unfold rk
 rw [List.take_add_one, h]
 simp only [Option.toList_some, List.filter_append, List.length_append]
 congr 1
 cases hn : isNew o.op <;> simp [hn]
theorem rk_mono {ops : List Oper} {i j : Nat} (h : i ≤ j) : rk ops i ≤ rk ops j := by
 unfold rk
 have : (ops.take i).Sublist (ops.take j) := by
  have := List.take_sublist i (ops.take j)
  rwa [List.take_take, Nat.min_eq_left h] at this
 exact (this.filter _).length_le
theorem rk_lt {ops : List Oper} {i j : Nat} {o : Oper} (h : ops[i]? = some o) (hn : isNew o.op = true) (hij : i < j) : rk ops i < rk ops j := by
 have h1 := rk_succ h
 rw [if_pos hn] at h1
 have := rk_mono (ops := ops) (show i + 1 ≤ j from hij)
 omega
theorem rk_inj {ops : List Oper} {i j : Nat} {o o' : Oper} (h : ops[i]? = some o) (hn : isNew o.op = true) (h' : ops[j]? = some o') (hn' : isNew o'.op = true) (he : rk ops i = rk ops j) : i = j := by
 rcases Nat.lt_trichotomy i j with h1 | h1 | h1
 ·have := rk_lt h hn h1; omega
 ·exact h1
 ·have := rk_lt h' hn' h1; omega
def yappN (t : TI) (rows : Rows) (x y : PV) (c0 d : Nat) (v : PV) (u : Option (Nat × Row)) : Prop :=
 match t with
 | .slice e n b _ => ∃ l, ysrc rows y l ∧ (∀ e ∈ l, e.length = n) ∧
  match x with
  | .nil => l.length ≤ room ∧ l.length * b ≤ room ∧ v = .own d c0 0 l.length ∧ u = some (d, ⟨c0, e, n, l⟩)
  | .own id ver off len => ∃ r, rows id = some r ∧ r.ver = ver ∧ off = 0 ∧ len = r.els.length ∧ r.e = e ∧ r.size = n ∧ len + l.length ≤ room ∧ (len + l.length) * b ≤ room ∧
    v = .own id c0 0 (len + l.length) ∧ u = some (id, ⟨c0, e, n, r.els ++ l⟩)
  | _ => False
 | _ => False
def yn (E : Env) (c0 : Nat) (d : Option Tmp) (op : Op) (ρ : Operand → PV) (rows : Rows) (v : PV) (u : Option (Nat × Row)) : Prop :=
 match op with
 | .alloc t => (E.ty t).known = true ∧ v = .ptr (d.getD 0) c0 0 0 ∧ u = some (d.getD 0, ⟨c0, t, (E.ty t).size, [(E.ty t).zero]⟩)
 | .box t x => (E.ty t).known = true ∧ ∃ l, cellsS (ρ x) = some l ∧ (∀ q ∈ l, one1 (fun _ => none) q) ∧ l.length = (E.ty t).size ∧ v = .ptr (d.getD 0) c0 0 0 ∧ u = some (d.getD 0, ⟨c0, t, (E.ty t).size, [l]⟩)
 | .makeSlice t l c =>
  match E.ty t, ρ l, ρ c with
  | .slice e n b z, .int _ x, .int _ y => 0 ≤ x ∧ x ≤ y ∧ y.toNat ≤ room ∧ y.toNat * b ≤ room ∧ v = .own (d.getD 0) c0 0 x.toNat ∧ u = some (d.getD 0, ⟨c0, e, n, List.replicate x.toNat z⟩)
  | _, _, _ => False
 | .call { callee := .builtin .append, args := ⟨[x, y]⟩, argTypes := ⟨[t, t2]⟩ } => (t2 = t ∨ slT (E.ty t2) = true) ∧ yappN (E.ty t) rows (ρ x) (ρ y) c0 (d.getD 0) v u
 | op => ys E op ρ rows v u
theorem yn_old {E : Env} {c0 : Nat} {d : Option Tmp} {op : Op} {ρ : Operand → PV} {rows : Rows} {v : PV} {u : Option (Nat × Row)} (h : isNew op = false) : yn E c0 d op ρ rows v u = ys E op ρ rows v u := by
 unfold yn
 split <;> first | rfl | (simp [isNew] at h)
theorem isNew_cases {op : Op} {C : Prop} (h : isNew op = true) (h1 : ∀ t, op = .alloc t → C) (h2 : ∀ t x, op = .box t x → C) (h3 : ∀ t l c, op = .makeSlice t l c → C)
  (h4 : ∀ x y t t2, op = .call { callee := .builtin .append, args := ⟨[x, y]⟩, argTypes := ⟨[t, t2]⟩ } → C) : C := by
 unfold isNew at h
 split at h
 ·exact h1 _ rfl
 ·exact h2 _ _ rfl
 ·exact h3 _ _ _ rfl
 ·exact h4 _ _ _ _ rfl
 ·cases h
theorem ysrc_le {rows rows' : Rows} {y : PV} {l : List (List PV)} (h : RowsLe (ids1 y) rows rows') (hy : ysrc rows y l) : ysrc rows' y l ∧ ∀ id ∈ ids1 y, ∃ r, rows id = some r := by
 unfold ysrc at *
 cases y with
 | own id ver off len =>
  obtain ⟨r, hr, hh⟩ := hy
  exact ⟨⟨r, h id (by simp [ids1]) r hr, hh⟩, by simp [ids1]; exact ⟨r, hr⟩⟩
 | nil => exact ⟨hy, by simp [ids1]⟩
 | sl l => exact ⟨hy, by simp [ids1]⟩
 | slx l => exact ⟨hy, by simp [ids1]⟩
 | _ => exact hy.elim
theorem yappN_le {t : TI} {rows rows' : Rows} {x y v : PV} {c0 d : Nat} {u : Option (Nat × Row)} (h : RowsLe (ids1 x ++ ids1 y) rows rows') (hy : yappN t rows x y c0 d v u) : yappN t rows' x y c0 d v u ∧ ∀ id ∈ ids1 x ++ ids1 y, ∃ r, rows id = some r := by
 unfold yappN at *
 cases t with
 | slice e n b z =>
  obtain ⟨l, h1, h2, h3⟩ := hy
  obtain ⟨g1, g2⟩ := ysrc_le (fun id hid => h id (by simp only [List.mem_append]; exact .inr hid)) h1
  cases x with
  | nil => exact ⟨⟨l, g1, h2, h3⟩, fun id hid => g2 id (by simpa [ids1] using hid)⟩
  | own id ver off len =>
   obtain ⟨r, hr, hh⟩ := h3
   refine ⟨⟨l, g1, h2, r, h id (by simp [ids1]) r hr, hh⟩, fun id' hid => ?_⟩
   simp only [ids1, List.mem_append, List.mem_cons, List.not_mem_nil, or_false] at hid
   rcases hid with rfl | hid
   ·exact ⟨r, hr⟩
   ·exact g2 id' hid
  | _ => exact h3.elim
 | _ => exact hy.elim
theorem yn_le {E : Env} {c0 : Nat} {d : Option Tmp} {op : Op} {ρ : Operand → PV} {rows rows' : Rows} {v : PV} {u : Option (Nat × Row)} (h : RowsLe (fpOp op ρ) rows rows') (hy : yn E c0 d op ρ rows v u) :
  yn E c0 d op ρ rows' v u ∧ (∀ id ∈ fpOp op ρ, ∃ r, rows id = some r) ∧ ∀ id r, u = some (id, r) → (isNew op = true ∧ id = d.getD 0) ∨ id ∈ fpOp op ρ := by
 cases hn : isNew op with
 | false =>
  rw [yn_old hn] at hy ⊢
  obtain ⟨h1, h2, h3⟩ := ys_le h hy
  exact ⟨h1, h2, fun id r hu => .inr (h3 id r hu)⟩
 | true =>
  refine isNew_cases hn ?_ ?_ ?_ ?_
  ·rintro t rfl
   refine ⟨hy, by simp [fpOp], fun id r hu => .inl ⟨by first | trivial | rfl, ?_⟩⟩
   obtain ⟨_, _, rfl⟩ := hy
   simp at hu; exact hu.1.symm
  ·rintro t x rfl
   refine ⟨hy, by simp [fpOp], fun id r hu => .inl ⟨by first | trivial | rfl, ?_⟩⟩
   obtain ⟨_, _, _, _, _, _, rfl⟩ := hy
   simp at hu; exact hu.1.symm
  ·rintro t l c rfl
   refine ⟨hy, by simp [fpOp], fun id r hu => .inl ⟨by first | trivial | rfl, ?_⟩⟩
   simp only [yn] at hy
   split at hy
   ·obtain ⟨_, _, _, _, _, rfl⟩ := hy
    simp at hu; exact hu.1.symm
   ·exact hy.elim
  ·rintro x y t t2 rfl
   simp only [yn, fpOp] at hy h ⊢
   obtain ⟨h2, h3⟩ := hy
   obtain ⟨g1, g2⟩ := yappN_le h h3
   refine ⟨⟨h2, g1⟩, g2, fun id r hu => ?_⟩
   unfold yappN at h3
   split at h3
   ·obtain ⟨l, _, _, h3⟩ := h3
    split at h3
    ·obtain ⟨_, _, _, rfl⟩ := h3
     simp at hu; exact .inl ⟨by first | trivial | rfl, hu.1.symm⟩
    ·rename_i hx
     obtain ⟨_, _, _, _, _, _, _, _, _, _, rfl⟩ := h3
     simp at hu
     rw [hx]
     exact .inr (by simp [ids1, hu.1])
    ·exact h3.elim
   ·exact h3.elim
open Classical in
noncomputable def vrow (md : Region.Mode) (ops : List Oper) (j : Nat) (wl : Nat → Nat → Prop) (rows : Rows) : Rows := fun id => if ∃ k, wl k id ∧ depL md ops j k = false then none else rows id
theorem vrow_some {md : Region.Mode} {ops : List Oper} {j id : Nat} {wl : Nat → Nat → Prop} {rows : Rows} {r : Row} : vrow md ops j wl rows id = some r ↔ (∀ k, wl k id → depL md ops j k = true) ∧ rows id = some r := by
 unfold vrow
 split
 ·rename_i h
  obtain ⟨k, h1, h2⟩ := h
  simp only [reduceCtorEq, false_iff, not_and]
  intro h3
  rw [h3 k h1] at h2; cases h2
 ·rename_i h
  refine ⟨fun h2 => ⟨fun k hk => ?_, h2⟩, fun h2 => h2.2⟩
  cases hd : depL md ops j k with
  | true => rfl
  | false => exact absurd ⟨k, hk, hd⟩ h
def okT (md : Region.Mode) (ops : List Oper) (i id : Nat) (tch : Nat → Nat → Prop) : Prop := ∀ k, tch k id → depL md ops i k = true
def okU (md : Region.Mode) (ops : List Oper) (i : Nat) (u : Option (Nat × Row)) (tch : Nat → Nat → Prop) : Prop :=
 match u with
 | none => True
 | some (id, _) => okT md ops i id tch
def gOK (ops : Array Oper) (o : Oper) (f : Nat → PV) (b : Bool) : Prop :=
 match o.guard with
 | none => b = true
 | some (j, want) => ∃ d, (ops[j]?).bind (·.dst) = some d ∧ ((f d = .bool want ∧ b = true) ∨ ((f d = .bool (!want) ∨ f d = .tup []) ∧ b = false))
def YG (E : Env) (md : Region.Mode) (ops : Array Oper) (c0 : Nat) (i : Nat) (o : Oper) (b : Bool) (v : PV) (u : Option (Nat × Row)) (st : ST) : Prop :=
 gOK ops o st.f b ∧ if b = true then yn E (c0 + rk ops.toList i) o.dst o.op (evf st.f) (vrow md ops.toList i st.wl st.rows) v u else v = .tup [] ∧ u = none
def wlU (i : Nat) (u : Option (Nat × Row)) (wl : Nat → Nat → Prop) : Nat → Nat → Prop :=
 match u with
 | none => wl
 | some (id, _) => fun k id' => (k = i ∧ id' = id) ∨ wl k id'
def app (i : Nat) (o : Oper) (b : Bool) (v : PV) (u : Option (Nat × Row)) (st : ST) : ST :=
 { f := put st.f o.dst v, rows := applyU st.rows u, tch := fun k id => (b = true ∧ k = i ∧ id ∈ fpOp o.op (evf st.f)) ∨ st.tch k id, wl := wlU i u st.wl }
def clkN (op : Op) (clk : Nat) : Nat :=
 match op with
 | .alloc _ => clk + 1
 | .box _ _ => clk + 1
 | .makeSlice _ _ _ => clk + 1
 | .call { callee := .builtin .append, args := ⟨[_, _]⟩, argTypes := ⟨[_, _]⟩ } => clk + 1
 | _ => clk
theorem clkN_old {op : Op} {clk : Nat} (h : isNew op = false) : clkN op clk = clk := by
 unfold clkN
 split <;> first | rfl | (simp [isNew] at h)
theorem clkN_new {op : Op} {clk : Nat} (h : isNew op = true) : clkN op clk = clk + 1 := by
 refine isNew_cases h ?_ ?_ ?_ ?_
 ·rintro t rfl; rfl
 ·rintro t x rfl; rfl
 ·rintro t l c rfl; rfl
 ·rintro x y t t2 rfl; rfl
theorem clkN_rk {ops : List Oper} {i c0 : Nat} {o : Oper} (h : ops[i]? = some o) : clkN o.op (c0 + rk ops i) = c0 + rk ops (i + 1) := by
 rw [rk_succ h]
 cases hn : isNew o.op with
 | false => rw [clkN_old hn]; simp
 | true => rw [clkN_new hn]; simp; omega
def qOp (E : Env) (md : Region.Mode) (ops : Array Oper) (c0 : Nat) (i : Nat) (K : ST → Prop) (st : ST) : Prop :=
 match ops[i]? with
 | none => K st
 | some o => ∃ b v u, YG E md ops c0 i o b v u st ∧ okU md ops.toList i u st.tch ∧ K (app i o b v u st)
section
variable {E : Env} {ops : Array Oper} {md : Region.Mode}
theorem qOp_mono {c0 i : Nat} {K K' : ST → Prop} {st : ST} (h : ∀ st, K st → K' st) (hh : qOp E md ops c0 i K st) : qOp E md ops c0 i K' st := by
 unfold qOp at *
 split
 ·exact h _ (by simpa [*] using hh)
 ·rename_i o ho
  simp only [ho] at hh
  obtain ⟨b, v, u, h1, h2, h3⟩ := hh
  exact ⟨b, v, u, h1, h2, h _ h3⟩
theorem evf_put {f : Nat → PV} {d : Option Tmp} {v : PV} {x : Operand} (h : ∀ t, d = some t → x ≠ .tmp t) : evf (put f d v) x = evf f x := by
 cases d with
 | none => rfl
 | some t =>
  cases x with
  | tmp s =>
   have : s ≠ t := fun e => h t rfl (by rw [e])
   simp [evf, put, this]
  | _ => rfl
theorem ys_congr {op : Op} {ρ ρ' : Operand → PV} {rows : Rows} {v : PV} {u : Option (Nat × Row)} (h : ∀ x ∈ op.operands, ρ x = ρ' x) : ys E op ρ rows v u ↔ ys E op ρ' rows v u := by
 have parts : ∀ ps : Array (Nat × Operand), (∀ x ∈ (ps.toList.map (·.2)).toArray, ρ x = ρ' x) → (ps.toList.map fun x => (x.1, ρ x.2)) = ps.toList.map fun x => (x.1, ρ' x.2) := fun ps hp =>
  List.map_congr_left fun p hm => by rw [hp p.2 (by simp; exact ⟨p.1, by simpa using hm⟩)]
 have args : ∀ (c : Call), (∀ x ∈ c.operands, ρ x = ρ' x) → ∀ x ∈ c.args.toList, ρ x = ρ' x := fun c hc x hx => hc x (by simp [Call.operands]; exact .inr (by simpa using hx))
 unfold ys
 split
 ·rename_i t p x
  rw [h p (by simp [Op.operands]), h x (by simp [Op.operands])]
 ·rename_i t len ps
  rw [parts ps (by simpa [Op.operands] using h)]
 ·rename_i f as ts
  have ha := args _ (by simpa [Op.operands] using h)
  simp only at ha
  rw [h f (by simp [Op.operands, Call.operands]), List.map_congr_left (g := fun x => pz rows (ρ' x)) fun x hx => by rw [ha x hx]]
  have : (as.toList.flatMap fun x => idsV (ρ x)) = as.toList.flatMap fun x => idsV (ρ' x) := by
   rw [List.flatMap_def, List.flatMap_def]
   congr 1
   exact List.map_congr_left fun x hx => by rw [ha x hx]
  rw [this]
 ·suffices hs : yv E op ρ rows v ↔ yv E op ρ' rows v by rw [hs]
  unfold yv
  split
  case h_12 =>
   rename_i t x lo hi mx _ _ _
   have o1 : ∀ y : Option Operand, (∀ z, y = some z → ρ z = ρ' z) → y.map ρ = y.map ρ' := by
    intro y hy; cases y with
    | none => rfl
    | some z => simp [hy z rfl]
   rw [h x (by simp [Op.operands]), o1 lo fun z hz => h z (by subst hz; simp [Op.operands]), o1 hi fun z hz => h z (by subst hz; simp [Op.operands]), o1 mx fun z hz => h z (by subst hz; simp [Op.operands])]
  case h_13 => rename_i t ps _ _ _; rw [parts ps (by simpa [Op.operands] using h)]
  case h_15 =>
   rename_i f caps _ _ _
   rw [List.map_congr_left (l := caps.toList) (f := fun x => ρ x) (g := fun x => ρ' x) fun x hx => h x (by simp [Op.operands]; simpa using hx)]
  all_goals first
   | rfl
   | (simp only [Op.operands, Call.operands] at h; simp [h])
theorem fpOp_congr {op : Op} {ρ ρ' : Operand → PV} (h : ∀ x ∈ op.operands, ρ x = ρ' x) : fpOp op ρ = fpOp op ρ' := by
 unfold fpOp
 split
 all_goals first
  | rfl
  | (simp only [Op.operands, Call.operands] at h; simp [h])
theorem yn_congr {c0 : Nat} {d : Option Tmp} {op : Op} {ρ ρ' : Operand → PV} {rows : Rows} {v : PV} {u : Option (Nat × Row)} (h : ∀ x ∈ op.operands, ρ x = ρ' x) : yn E c0 d op ρ rows v u ↔ yn E c0 d op ρ' rows v u := by
 cases hn : isNew op with
 | false => rw [yn_old hn, yn_old hn]; exact ys_congr h
 | true =>
  refine isNew_cases hn ?_ ?_ ?_ ?_
  ·rintro t rfl; exact Iff.rfl
  ·rintro t x rfl
   simp only [yn]
   rw [h x (by simp [Op.operands])]
  ·rintro t l c rfl
   simp only [yn]
   rw [h l (by simp [Op.operands]), h c (by simp [Op.operands])]
  ·rintro x y t t2 rfl
   simp only [yn]
   rw [h x (by simp [Op.operands, Call.operands]), h y (by simp [Op.operands, Call.operands])]
theorem looks_op {o : Oper} {d : Tmp} {x : Operand} (h : d ∉ o.looksAt ops) (hx : x ∈ o.op.operands) : x ≠ .tmp d := by
 rintro rfl
 exact h (List.mem_append_left _ (List.mem_filterMap.2 ⟨.tmp d, by simpa using hx, rfl⟩))
theorem rep_no {c : Cx} : RepV c (.tup []) undef := by
 show Rep c.S c.w (.tup []) undef
 simp only [Rep]
 exact ⟨[], rfl, rfl⟩
theorem yielded_bool {c : Cx} {tmps : Array Value} {j : Nat} {d : Tmp} {t : Bool} (h1 : (ops[j]?).bind (·.dst) = some d) (h : RepV c (.bool t) (tmps.getD d undef)) : yielded ops tmps j = some t := by
 rw [rep_bool] at h
 unfold yielded
 rw [h1]
 simp only [Option.bind_some]
 cases hx : tmps[d]? with
 | none => simp [hx] at h; cases h
 | some y =>
  have hy : y = .bool t := by simpa [hx] using h
  rw [hy]
theorem yielded_no {c : Cx} {tmps : Array Value} {j : Nat} {d : Tmp} (h1 : (ops[j]?).bind (·.dst) = some d) (h : RepV c (.tup []) (tmps.getD d undef)) : yielded ops tmps j = none := by
 have h2 : tmps.getD d undef = .tuple #[] := by
  have h3 : Rep c.S c.w (.tup []) (tmps.getD d undef) := h
  simp only [Rep] at h3
  obtain ⟨vs, h4, h5⟩ := h3
  simp only [RepList] at h5
  rw [h4, h5]
 unfold yielded
 rw [h1]
 simp only [Option.bind_some]
 cases hx : tmps[d]? with
 | none => rfl
 | some y =>
  have hy : y = .tuple #[] := by simpa [hx] using h2
  rw [hy]
theorem gOK_put {o : Oper} {f : Nat → PV} {dd : Option Tmp} {v : PV} {b : Bool} (h : ∀ d, dd = some d → d ∉ o.looksAt ops) : gOK ops o (put f dd v) b ↔ gOK ops o f b := by
 unfold gOK
 cases hg : o.guard with
 | none => rfl
 | some g =>
  obtain ⟨j, want⟩ := g
  simp only
  have key : ∀ d, (ops[j]?).bind (·.dst) = some d → put f dd v d = f d := by
   intro d h1
   cases dd with
   | none => rfl
   | some e =>
    have hne : d ≠ e := by
     rintro rfl
     exact h d rfl (List.mem_append_right _ (by simp [hg, h1]))
    simp [put, hne]
  constructor
  ·rintro ⟨d, h1, h2⟩
   rw [key d h1] at h2
   exact ⟨d, h1, h2⟩
  ·rintro ⟨d, h1, h2⟩
   rw [← key d h1] at h2
   exact ⟨d, h1, h2⟩
theorem put_comm {f : Nat → PV} {x y : Option Tmp} {v u : PV} (h : ∀ d, x = some d → y ≠ some d) : put (put f x v) y u = put (put f y u) x v := by
 cases x with
 | none => rfl
 | some d =>
  cases y with
  | none => rfl
  | some e =>
   have hne : d ≠ e := fun he => h d rfl (by rw [he])
   funext j
   simp only [put]
   split <;> split <;> simp_all
theorem applyU_get {rows : Rows} {u : Option (Nat × Row)} {j : Nat} (h : ∀ r, u ≠ some (j, r)) : applyU rows u j = rows j := by
 cases u with
 | none => rfl
 | some x =>
  obtain ⟨i, r⟩ := x
  simp only [applyU, upd]
  rw [if_neg]
  rintro rfl
  exact h r rfl
theorem wlU_iff {i : Nat} {u : Option (Nat × Row)} {wl : Nat → Nat → Prop} {k id : Nat} : wlU i u wl k id ↔ (k = i ∧ ∃ r, u = some (id, r)) ∨ wl k id := by
 cases u with
 | none => simp [wlU]
 | some x =>
  obtain ⟨id', r⟩ := x
  simp only [wlU, Option.some.injEq, Prod.mk.injEq]
  constructor
  ·rintro (⟨h1, h2⟩ | h)
   ·exact .inl ⟨h1, r, h2.symm, rfl⟩
   ·exact .inr h
  ·rintro (⟨h1, r', h2, _⟩ | h)
   ·exact .inl ⟨h1, h2.symm⟩
   ·exact .inr h
theorem okU_iff {i : Nat} {u : Option (Nat × Row)} {tch : Nat → Nat → Prop} : okU md ops.toList i u tch ↔ ∀ id r, u = some (id, r) → ∀ k, tch k id → depL md ops.toList i k = true := by
 cases u with
 | none => simp [okU]
 | some x =>
  obtain ⟨id', r⟩ := x
  simp only [okU, okT, Option.some.injEq, Prod.mk.injEq]
  constructor
  ·rintro h _ _ ⟨rfl, _⟩; exact h
  ·intro h; exact h _ _ ⟨rfl, rfl⟩
theorem qOp_put {c0 i j : Nat} {oi oj : Oper} {bi : Bool} {vi : PV} {ui : Option (Nat × Row)} (hj : ops[j]? = some oj) (hap : oi.apart ops oj = true) (hds : isNew oi.op = true → oi.dst.isSome = true) (hdsj : isNew oj.op = true → oj.dst.isSome = true) (hdj : depL md ops.toList j i = false) {K : ST → Prop} {st : ST}
  (hy : YG E md ops c0 i oi bi vi ui st) (ho : okU md ops.toList i ui st.tch) (h : qOp E md ops c0 j K (app i oi bi vi ui st)) :
  qOp E md ops c0 j (fun st' => YG E md ops c0 i oi bi vi ui st' ∧ okU md ops.toList i ui st'.tch ∧ K (app i oi bi vi ui st')) st := by
 obtain ⟨h1, h2, h3⟩ := Oper.apart_spec hap
 unfold qOp at h ⊢
 simp only [hj] at h ⊢
 obtain ⟨bj, vj, uj, ⟨hgj, hyj⟩, hoj, hK⟩ := h
 obtain ⟨hgi, hyi⟩ := hy
 rw [okU_iff] at hoj ho
 have ej : ∀ x ∈ oj.op.operands, evf (put st.f oi.dst vi) x = evf st.f x := fun x hx => evf_put fun t ht => looks_op (h1 t ht) hx
 have ei : ∀ x ∈ oi.op.operands, evf (put st.f oj.dst vj) x = evf st.f x := fun x hx => evf_put fun t ht => looks_op (h3 t ht) hx
 have hgj' : gOK ops oj st.f bj := (gOK_put h1).1 hgj
 have hnw : ∀ id r, vrow md ops.toList j (app i oi bi vi ui st).wl (app i oi bi vi ui st).rows id = some r → ∀ r', ui ≠ some (id, r') := by
  intro id r hr r' hu
  obtain ⟨hw, _⟩ := vrow_some.1 hr
  have := hw i (wlU_iff.2 (.inl ⟨rfl, r', hu⟩))
  rw [hdj] at this; cases this
 have hle : ∀ ids, RowsLe ids (vrow md ops.toList j (app i oi bi vi ui st).wl (app i oi bi vi ui st).rows) (vrow md ops.toList j st.wl st.rows) := by
  intro ids id _ r hr
  have hn := hnw id r hr
  obtain ⟨hw, hr'⟩ := vrow_some.1 hr
  simp only [app] at hr' hw
  rw [applyU_get hn] at hr'
  exact vrow_some.2 ⟨fun k hk => hw k (wlU_iff.2 (.inr hk)), hr'⟩
 have hyj' : (if bj = true then yn E (c0 + rk ops.toList j) oj.dst oj.op (evf st.f) (vrow md ops.toList j st.wl st.rows) vj uj else vj = .tup [] ∧ uj = none) ∧
   (bj = true → ∀ id ∈ fpOp oj.op (evf st.f), ∃ r, vrow md ops.toList j (app i oi bi vi ui st).wl (app i oi bi vi ui st).rows id = some r) ∧ (∀ id r, uj = some (id, r) → bj = true ∧ ((isNew oj.op = true ∧ id = oj.dst.getD 0) ∨ id ∈ fpOp oj.op (evf st.f))) := by
  by_cases hb : bj = true
  ·rw [if_pos hb] at hyj ⊢
   have hyj2 := (yn_congr ej).1 hyj
   obtain ⟨g1, g2, g3⟩ := yn_le (hle _) hyj2
   exact ⟨g1, fun _ => g2, fun id r hu => ⟨hb, g3 id r hu⟩⟩
  ·rw [if_neg hb] at hyj ⊢
   exact ⟨hyj, fun h => absurd h hb, fun id r hu => by rw [hyj.2] at hu; cases hu⟩
 obtain ⟨hyj1, hyj2, hyj3⟩ := hyj'
 have hoj' : okU md ops.toList j uj st.tch := okU_iff.2 fun id r hu k hk => hoj id r hu k (.inr hk)
 have hfi : ∀ id r, uj = some (id, r) → ¬ (bi = true ∧ id ∈ fpOp oi.op (evf st.f)) := by
  intro id r hu hh
  have := hoj id r hu i (.inl ⟨hh.1, rfl, hh.2⟩)
  rw [hdj] at this; cases this
 have hui : ∀ id r, ui = some (id, r) → bi = true ∧ ((isNew oi.op = true ∧ id = oi.dst.getD 0) ∨ id ∈ fpOp oi.op (evf st.f)) := by
  intro id r hu
  by_cases hb : bi = true
  ·rw [if_pos hb] at hyi
   exact ⟨hb, (yn_le (rows' := vrow md ops.toList i st.wl st.rows) (fun id _ r hr => hr) hyi).2.2 id r hu⟩
  ·rw [if_neg hb] at hyi
   rw [hyi.2] at hu; cases hu
 have hne : ∀ id r r', ui = some (id, r) → uj = some (id, r') → False := by
  intro id r r' hu1 hu2
  obtain ⟨hb, hh⟩ := hyj3 id r' hu2
  rcases hh with hh | hh
  ·obtain ⟨hb1, hh1⟩ := hui id r hu1
   rcases hh1 with hh1 | hh1
   ·obtain ⟨d, hd⟩ := Option.isSome_iff_exists.1 (hds hh1.1)
    have e1 : id = d := by rw [hh1.2, hd]; rfl
    cases hdj2 : oj.dst with
    | none => exact absurd hdj2 (fun he => by have := hdsj hh.1; rw [he] at this; cases this)
    | some d' =>
     have e2 : id = d' := by rw [hh.2, hdj2]; rfl
     exact h2 d hd (by rw [hdj2, ← e2, e1])
   ·exact hfi id r' hu2 ⟨hb1, hh1⟩
  ·obtain ⟨r'', hr''⟩ := hyj2 hb id hh
   exact hnw id r'' hr'' r hu1
 have hlei : bi = true → RowsLe (fpOp oi.op (evf st.f)) (vrow md ops.toList i st.wl st.rows) (vrow md ops.toList i (app j oj bj vj uj st).wl (app j oj bj vj uj st).rows) := by
  intro hb id hid r hr
  obtain ⟨hw, hr'⟩ := vrow_some.1 hr
  have hn : ∀ r', uj ≠ some (id, r') := fun r' hu => hfi id r' hu ⟨hb, hid⟩
  refine vrow_some.2 ⟨fun k hk => ?_, ?_⟩
  ·rcases wlU_iff.1 hk with ⟨_, r', hu⟩ | hk
   ·exact absurd hu (hn r')
   ·exact hw k hk
  ·simp only [app]; rw [applyU_get hn]; exact hr'
 refine ⟨bj, vj, uj, ⟨hgj', hyj1⟩, hoj', ⟨(gOK_put h3).2 hgi, ?_⟩, ?_, ?_⟩
 ·by_cases hb : bi = true
  ·rw [if_pos hb] at hyi ⊢
   refine (yn_congr ei).2 ?_
   exact (yn_le (hlei hb) hyi).1
  ·rw [if_neg hb] at hyi ⊢; exact hyi
 ·-- i's own row has not been touched
  rw [okU_iff]
  rintro id r hu k (⟨hb, rfl, hh⟩ | hh)
  ·obtain ⟨r', hr'⟩ := hyj2 hb id hh
   exact absurd hu (hnw id r' hr' r)
  ·exact ho id r hu k hh
 ·have : app i oi bi vi ui (app j oj bj vj uj st) = app j oj bj vj uj (app i oi bi vi ui st) := by
   simp only [app, ST.mk.injEq]
   refine ⟨put_comm fun d hd => fun hd' => (h2 d) (by first | exact hd | exact hd') (by first | exact hd' | exact hd), ?_, ?_, ?_⟩
   ·cases ui with
    | none => rfl
    | some x =>
     cases uj with
     | none => rfl
     | some y =>
      obtain ⟨id, r⟩ := x
      obtain ⟨id', r'⟩ := y
      have : id ≠ id' := fun e => hne id r r' rfl (by rw [e])
      funext k
      simp only [applyU, upd]
      split <;> split <;> simp_all
   ·funext k id
    have e1 : fpOp oi.op (evf (put st.f oj.dst vj)) = fpOp oi.op (evf st.f) := fpOp_congr ei
    have e2 : fpOp oj.op (evf (put st.f oi.dst vi)) = fpOp oj.op (evf st.f) := fpOp_congr ej
    rw [e1, e2]
    apply propext
    constructor
    ·rintro (h | h | h)
     ·exact .inr (.inl h)
     ·exact .inl h
     ·exact .inr (.inr h)
    ·rintro (h | h | h)
     ·exact .inr (.inl h)
     ·exact .inl h
     ·exact .inr (.inr h)
   ·funext k id
    apply propext
    rw [wlU_iff, wlU_iff, wlU_iff, wlU_iff]
    constructor
    ·rintro (h | h | h)
     ·exact .inr (.inl h)
     ·exact .inl h
     ·exact .inr (.inr h)
    ·rintro (h | h | h)
     ·exact .inr (.inl h)
     ·exact .inl h
     ·exact .inr (.inr h)
  rw [this]; exact hK
theorem dep1_iff {j k : Nat} : dep1 md ops.toList j k = true ↔ ∃ oj, ops[j]? = some oj ∧ ∃ e ∈ oj.after, Region.binds md e = true ∧ e.on = k := by
 unfold dep1
 cases h : ops[j]? with
 | none => simp [show ops.toList[j]? = none by simpa using h]
 | some oj =>
  rw [show ops.toList[j]? = some oj by simpa using h]
  simp only [List.any_eq_true, Bool.and_eq_true, beq_iff_eq, Option.some.injEq]
  constructor
  ·rintro ⟨e, he, h1, h2⟩; exact ⟨oj, rfl, e, by simpa using he, h1, h2⟩
  ·rintro ⟨_, rfl, e, he, h1, h2⟩; exact ⟨e, by simpa using he, h1, h2⟩
theorem dep_not {n j i : Nat} {oj : Oper} {listed : Array Bool} (hj : ops[j]? = some oj) (inv : HeadInv md ops n listed) (hr : ∀ e ∈ oj.after, Region.binds md e = true → listed.getD e.on false = true) (hun : listed.getD i false = false) : depL md ops.toList j i = false := by
 have one : ∀ k, dep1 md ops.toList j k = true → listed.getD k false = true := fun k hk => by
  obtain ⟨o, ho, e, he, h1, rfl⟩ := dep1_iff.1 hk
  rw [hj] at ho; cases ho
  exact hr e he h1
 cases hd : depL md ops.toList j i with
 | false => rfl
 | true =>
  exfalso
  unfold depL at hd
  rcases Bool.or_eq_true_iff.1 hd with h | h
  ·rw [one i h] at hun; cases hun
  ·obtain ⟨k, _, hk⟩ := List.any_eq_true.1 h
   obtain ⟨h1, h2⟩ := Bool.and_eq_true_iff.1 hk
   obtain ⟨o, ho, e, he, h3, rfl⟩ := dep1_iff.1 h2
   rw [inv.closed k o ho (one k h1) e he h3] at hun; cases hun
end
end Pm
namespace Pm
open Go Go.RowKit
section
variable {E : Env} {ops : Array Oper} {md : Region.Mode}
def pAnyL (E : Env) (md : Region.Mode) (ops : Array Oper) (c0 n : Nat) (L : Array Bool → ST → Prop) : Nat → Array Bool → ST → Prop
 | 0, listed, st => L listed st
 | f + 1, listed, st => Region.ready md ops listed ≠ [] ∧ ∀ i ∈ Region.ready md ops listed, i < n ∧ qOp E md ops c0 i (pAnyL E md ops c0 n L f (listed.setIfInBounds i true)) st
theorem pAnyL_first {c0 n i : Nat} {oi : Oper} {b : Bool} {v : PV} {u : Option (Nat × Row)} {L : Array Bool → ST → Prop} (hi : ops[i]? = some oi) (hnew : ∀ i oi, i < n → ops[i]? = some oi → isNew oi.op = true → oi.dst.isSome = true)
  (htail : ∀ listed, HeadInv md ops n listed → ∀ i, i < n → listed.getD i true = false → ∀ t, n ≤ t → t ∉ Region.ready md ops listed) (hin : i < n)
  (hdone : ∀ listed st, L listed st → ∀ j ∈ Region.ready md ops listed, n ≤ j) :
  ∀ (f : Nat) (listed : Array Bool) (st : ST), HeadInv md ops n listed →
   (∀ j oj, ops[j]? = some oj → j ≠ i → listed.getD j true = false → (∀ e ∈ oj.after, Region.binds md e = true → e.on ≠ i) → oi.apart ops oj = true) →
   i ∈ Region.ready md ops listed → YG E md ops c0 i oi b v u st → okU md ops.toList i u st.tch →
   pAnyL E md ops c0 n L f (listed.setIfInBounds i true) (app i oi b v u st) → pAnyL E md ops c0 n L (f + 1) listed st := by
 intro f
 induction f with
 | zero =>
  intro listed st inv _ hr hy ho H
  have hun := (mem_ready.1 hr).1
  refine ⟨fun h => (by rw [h] at hr; cases hr), fun j hj => ?_⟩
  have hjn : j < n := by
   rcases Nat.lt_or_ge j n with h | h
   ·exact h
   ·exact absurd hj (htail listed inv i hin hun j h)
  refine ⟨hjn, ?_⟩
  by_cases hji : j = i
  ·subst hji; unfold qOp; simp only [hi]; exact ⟨b, v, u, hy, ho, H⟩
  ·have := hdone _ _ H j (ready_mono hj hji)
   omega
 | succ f ih =>
  intro listed st inv hfree hr hy ho H
  have hun := (mem_ready.1 hr).1
  refine ⟨fun h => (by rw [h] at hr; cases hr), fun j hj => ?_⟩
  have hjn : j < n := by
   rcases Nat.lt_or_ge j n with h | h
   ·exact h
   ·exact absurd hj (htail listed inv i hin hun j h)
  refine ⟨hjn, ?_⟩
  by_cases hji : j = i
  ·subst hji; unfold qOp; simp only [hi]; exact ⟨b, v, u, hy, ho, H⟩
  ·have h1 := (H.2 j (ready_mono hj hji)).2
   obtain ⟨hjun, oj, hoj, hall⟩ := mem_ready.1 hj
   have hnot : ∀ e ∈ oj.after, Region.binds md e = true → e.on ≠ i := fun e he hb heq => by
    have h1 := hall e he hb
    rw [heq, getD_both hun] at h1
    cases h1
   have h2 := qOp_put hoj (hfree j oj hoj hji hjun hnot) (hnew i oi hin hi) (hnew j oj hjn hoj) (dep_not hoj inv hall (getD_both hun)) hy ho h1
   have hfree' : ∀ k ok, ops[k]? = some ok → k ≠ i → (listed.setIfInBounds j true).getD k true = false →
     (∀ e ∈ ok.after, Region.binds md e = true → e.on ≠ i) → oi.apart ops ok = true := fun k ok hk hki hun' hno => by
    refine hfree k ok hk hki ?_ hno
    by_cases hjk : j = k
    ·subst hjk; exact hjun
    ·rw [getD_set_ne true hjk] at hun'; exact hun'
   refine qOp_mono (fun st' h3 => ih (listed.setIfInBounds j true) st' (inv.set hj hjn) hfree' (ready_mono hr (Ne.symm hji)) h3.1 h3.2.1 ?_) h2
   rw [Array.setIfInBounds_comm _ _ hji]
   exact h3.2.2
def pLex (E : Env) (md : Region.Mode) (ops : Array Oper) (c0 : Nat) (Lq : ST → Prop) : Nat → List Oper → ST → Prop
 | _, [], st => Lq st
 | k, o :: os, st => ∃ b v u, YG E md ops c0 k o b v u st ∧ okU md ops.toList k u st.tch ∧ pLex E md ops c0 Lq (k + 1) os (app k o b v u st)
theorem pAnyL_lex {c0 n g : Nat} {Lq : ST → Prop} (hnew : ∀ i oi, i < n → ops[i]? = some oi → isNew oi.op = true → oi.dst.isSome = true) (htail : ∀ listed, HeadInv md ops n listed → ∀ i, i < n → listed.getD i true = false → ∀ t, n ≤ t → t ∉ Region.ready md ops listed) :
  ∀ (l : List Oper) (k : Nat) (listed : Array Bool) (st : ST), (∀ j, j < l.length → l[j]? = ops[k + j]?) → k + l.length = n → HeadInv md ops n listed →
  Region.lexHead md ops g l.length k listed = true → pLex E md ops c0 Lq k l st →
  pAnyL E md ops c0 n (fun listed' st' => Region.seqB md ops g n listed' = true ∧ Lq st') l.length listed st
 | [], k, listed, st, _, hk, _, hB, h => by
  have : k = n := by simpa using hk
  subst this
  exact ⟨by simpa [Region.lexHead] using hB, h⟩
 | o :: l, k, listed, st, hl, hk, inv, hB, h => by
  have h0 : ops[k]? = some o := by simpa using (hl 0 (by simp)).symm
  simp only [List.length_cons, Region.lexHead, Bool.and_eq_true] at hB
  obtain ⟨⟨hr, hf⟩, hB'⟩ := hB
  have hkn : k < n := by simp only [List.length_cons] at hk; omega
  have hr' : k ∈ Region.ready md ops listed := by simpa using hr
  obtain ⟨b, v, u, hy, ho, hK⟩ := h
  exact pAnyL_first h0 hnew htail hkn (fun listed' st' hL => seqB_ready hL.1) l.length listed st inv (Region.free_spec h0 hf) hr' hy ho
   (pAnyL_lex hnew htail l (k + 1) _ _ (fun j hj => by have := hl (j + 1) (by simp; omega); simpa [Nat.add_assoc, Nat.add_comm 1 j] using this) (by simp only [List.length_cons] at hk; omega) (inv.set hr' hkn) hB' hK)
variable {w0 : World} {S0 : Stab} {m : Nat} {G : Gs}
theorem yn_sound {o : Oper} {a : Act} {w : World} {f : Nat → PV} {rows : Rows} {U : Nat → Prop} {c0 : Nat} {v : PV} {u : Option (Nat × Row)} (hfr : ¬ U c0) (hn : isNew o.op = true) (hy : yn E c0 o.dst o.op (evf f) rows v u) (hR : RelU w0 S0 m G U f rows a w) (hd : ∀ t, o.dst = some t → t < m)
  {K' : Act → World → Prop} {Q : Exit → Act → World → Prop} (hK : ∀ a' w', RelU w0 S0 m G (fun v => v = c0 ∨ U v) (put f o.dst v) (applyU rows u) a' w' → K' a' w') : o.wp E.P a w K' Q := by
 refine pfreeN_sound (ver := c0) hfr (K := fun _ f' rows' => f' = put f o.dst v ∧ rows' = applyU rows u) ?_ hR hd (fun i f' rows' a' w' h hR' => by
  obtain ⟨rfl, rfl⟩ := h
  exact hK a' w' (hR'.mono fun v hv => hv.imp (fun h => h.2) fun h => h))
 obtain ⟨dst, op, type, pos, after, guard⟩ := o
 simp only at hn hy ⊢
 refine isNew_cases hn ?_ ?_ ?_ ?_
 ·rintro t rfl
  simp only [yn] at hy
  obtain ⟨h2, rfl, rfl⟩ := hy
  exact ⟨h2, rfl, rfl⟩
 ·rintro t x rfl
  simp only [yn] at hy
  obtain ⟨h2, l, h3, h4, h5, rfl, rfl⟩ := hy
  exact ⟨h2, l, h3, fun q hq => one1_le (fun id _ r hr => by cases hr) (h4 q hq), h5, rfl, rfl⟩
 ·rintro t l cc rfl
  simp only [yn] at hy
  simp only [pfreeN]
  split at hy
  ·rename_i e n b z k1 x k2 y hE hl hc
   obtain ⟨g1, g2, g3, g4, rfl, rfl⟩ := hy
   rw [hE, hl, hc]
   exact ⟨g1, g2, g3, g4, rfl, rfl⟩
  ·exact hy.elim
 ·rintro x y t t2 rfl
  simp only [yn] at hy
  obtain ⟨h2, hy⟩ := hy
  simp only [pfreeN]
  refine ⟨h2, ?_⟩
  unfold yappN at hy
  unfold pappendN
  split at hy
  ·rename_i e n b z hE
   obtain ⟨l, g1, g2, g3⟩ := hy
   rw [hE]
   refine ⟨l, g1, g2, ?_⟩
   split at g3
   ·rename_i hx
    obtain ⟨q1, q2, rfl, rfl⟩ := g3
    rw [hx]
    exact ⟨q1, q2, rfl, rfl⟩
   ·rename_i id ver off len hx
    obtain ⟨r, q1, q2, q3, q4, q5, q6, q7, q8, rfl, rfl⟩ := g3
    rw [hx]
    exact ⟨r, q1, q2, q3, q4, q5, q6, q7, q8, rfl, rfl⟩
   ·exact g3.elim
  ·exact hy.elim
theorem qOp_sound {c0 i : Nat} {st : ST} {K : ST → Prop} {U : Nat → Prop} (hfr : ∀ o, ops[i]? = some o → isNew o.op = true → ¬ U (c0 + rk ops.toList i)) (h : qOp E md ops c0 i K st) {a : Act} {w : World} (hR : RelU w0 S0 m G U st.f st.rows a w) (hd : ∀ o, o ∈ ops → ∀ t, o.dst = some t → t < m)
  {K' : Act → World → Prop} {Q : Exit → Act → World → Prop} (hK : ∀ st' a' w', K st' → RelU w0 S0 m G (fun v => (v = c0 + rk ops.toList i ∧ ∃ o, ops[i]? = some o ∧ isNew o.op = true) ∨ U v) st'.f st'.rows a' w' → K' a' w') : wpOp E.P ops Q i K' a w := by
 unfold qOp at h
 unfold wpOp
 split at h
 ·rename_i hi; simp only [hi]; exact hK _ _ _ h (hR.mono fun v hv => .inr hv)
 ·rename_i o hi
  simp only [hi]
  obtain ⟨b, v, u, ⟨hg, hy⟩, ho, hk⟩ := h
  have hR' := hR
  obtain ⟨⟨c, rfl, hr, hcl, hI, hf, hG⟩, hn, hdef⟩ := hR
  have hdo := hd o (Array.mem_of_getElem? hi)
  have hwant : Region.wanted o (yielded ops a.tmps) = b := by
   unfold gOK at hg
   unfold Region.wanted
   cases hgd : o.guard with
   | none => rw [hgd] at hg; simp only at hg ⊢; exact hg.symm
   | some x =>
    obtain ⟨j, want⟩ := x
    rw [hgd] at hg
    simp only at hg ⊢
    obtain ⟨d, h1, h2⟩ := hg
    have hx := hf d
    rcases h2 with ⟨h2, h3⟩ | ⟨h2 | h2, h3⟩
    ·rw [h2] at hx
     rw [yielded_bool h1 hx, h3]
     cases want <;> rfl
    ·rw [h2] at hx
     rw [yielded_bool h1 hx, h3]
     cases want <;> rfl
    ·rw [h2] at hx
     rw [yielded_no h1 hx, h3]
     rfl
  by_cases hb : b = true
  ·subst hb
   rw [if_pos rfl] at hy
   rw [hwant, if_pos rfl]
   left
   cases hnew : isNew o.op with
   | true =>
    refine yn_sound (hfr o hi hnew) hnew (yn_le (fun id _ r hr' => (vrow_some.1 hr').2) hy).1 hR' hdo fun a' w' hR2 => hK _ _ _ hk ?_
    exact hR2.mono fun v hv => hv.imp (fun h => ⟨h, o, by first | exact hi | rfl, hnew⟩) fun h => h
   | false =>
    rw [yn_old hnew] at hy
    have hy' : ys E o.op (evf st.f) c.rows v u := by
     rw [hr]
     exact (ys_le (fun id _ r hr' => (vrow_some.1 hr').2) hy).1
    refine ys_sound hI hf hy' fun v' c' h1 h2 h3 h4 h5 => hK _ _ _ hk ?_
    refine relU_put hf hG hn hdef h3 h4 h5 hdo rfl ?_ ?_
    ·simp only [app]
     rw [h1, hr]
    ·rw [h2]
     exact fun v hv => .inr (hcl v hv)
  ·rw [if_neg hb] at hy
   obtain ⟨rfl, rfl⟩ := hy
   rw [hwant, if_neg hb]
   refine hK _ _ _ hk ?_
   have hb' : b = false := by simpa using hb
   subst hb'
   exact relU_put hf hG hn hdef (Adv.refl c) hI rep_no hdo rfl (by rw [hr]; rfl) (fun v hv => .inr (hcl v hv))
def Ul (ops : Array Oper) (c0 n : Nat) (listed : Array Bool) : Nat → Prop := fun v => v < c0 ∨ ∃ k o, k < n ∧ ops[k]? = some o ∧ isNew o.op = true ∧ v = c0 + rk ops.toList k ∧ listed.getD k false = true
theorem Ul_end {c0 n v : Nat} {listed : Array Bool} (h : Ul ops c0 n listed v) : v < c0 + rk ops.toList n := by
 rcases h with h | ⟨k, o, hk, ho, hn, rfl, _⟩
 ·omega
 ·have := rk_lt (ops := ops.toList) (by simpa using ho) hn hk
  omega
theorem wpAny_of_pAny {c0 n g : Nat} {L : Array Bool → ST → Prop} {Q : Exit → Act → World → Prop} (hd : ∀ o, o ∈ ops → ∀ t, o.dst = some t → t < m)
  (hL : ∀ listed (st : ST) a w, L listed st → RelU w0 S0 m G (Ul ops c0 n listed) st.f st.rows a w → wpAny E.P md ops Q g listed a w) :
  ∀ (f : Nat) (listed : Array Bool) (st : ST) (a : Act) (w : World), n ≤ listed.size → pAnyL E md ops c0 n L f listed st → RelU w0 S0 m G (Ul ops c0 n listed) st.f st.rows a w → wpAny E.P md ops Q (f + g) listed a w
 | 0, listed, st, a, w, _, h, hR => by rw [Nat.zero_add]; exact hL _ _ _ _ h hR
 | f + 1, listed, st, a, w, hsz, h, hR => by
  rw [show f + 1 + g = (f + g) + 1 by omega]
  refine ⟨fun h0 => absurd h0 h.1, fun i hi => ?_⟩
  have hun := (mem_ready.1 hi).1
  obtain ⟨hin, hq⟩ := h.2 i hi
  refine qOp_sound (fun o ho hn hU => ?_) hq hR hd fun st' a' w' h' hR' => wpAny_of_pAny hd hL f _ st' a' w' (by simpa using hsz) h' (hR'.mono fun v hv => ?_)
  ·rcases hU with hU | ⟨k, o', hk, ho', hn', he, hl⟩
   ·omega
   ·have := rk_inj (ops := ops.toList) (by simpa using ho) hn (by simpa using ho') hn' (by omega)
    subst this
    rw [getD_both hun] at hl; cases hl
  ·rcases hv with ⟨rfl, o, ho, hn⟩ | hv
   ·exact .inr ⟨i, o, hin, ho, hn, rfl, by simp [show i < listed.size by omega]⟩
   ·rcases hv with hv | ⟨k, o, hk, ho, hn, he, hl⟩
    ·exact .inl hv
    ·refine .inr ⟨k, o, hk, ho, hn, he, ?_⟩
     by_cases hki : i = k
     ·subst hki; simp [show i < listed.size by omega]
     ·simpa [Array.getElem?_setIfInBounds_ne hki] using hl
end
end Pm
namespace Pm
open Go Go.RowKit
def pops (E : Env) (ops : List Oper) : List Oper → (PS → Prop) → PS → Prop
 | [], K, σ => K σ
 | o :: os, K, σ =>
  match o.guard with
  | none => pfree E o (pops E ops os K) σ
  | some (j, want) =>
   match (ops[j]?).bind (·.dst) with
   | none => False
   | some d => (σ.f d = .bool want ∧ pfree E o (pops E ops os K) σ) ∨ ((σ.f d = .bool (!want) ∨ σ.f d = .tup []) ∧ pops E ops os K (σ.put o.dst (.tup [])))
def pstr (E : Env) (ops : List Oper) (clk : Nat) : Nat → List Oper → (PS → Prop) → ST → Prop
 | _, [], K, st => K ⟨st.f, st.rows, clk⟩
 | k, o :: os, K, st =>
  match o.guard with
  | none => ∃ v u, yn E clk o.dst o.op (evf st.f) (vrow .any ops k st.wl st.rows) v u ∧ okU .any ops k u st.tch ∧ pstr E ops (clkN o.op clk) (k + 1) os K (app k o true v u st)
  | some (j, want) =>
   match (ops[j]?).bind (·.dst) with
   | none => False
   | some d => (st.f d = .bool want ∧ ∃ v u, yn E clk o.dst o.op (evf st.f) (vrow .any ops k st.wl st.rows) v u ∧ okU .any ops k u st.tch ∧ pstr E ops (clkN o.op clk) (k + 1) os K (app k o true v u st)) ∨ ((st.f d = .bool (!want) ∨ st.f d = .tup []) ∧ pstr E ops clk (k + 1) os K (app k o false (.tup []) none st))
def pregion (E : Env) (tl : Nat) (ops : List Oper) (K : PS → Prop) (σ : PS) : Prop :=
 if tl = 0 then pstr E ops σ.clock 0 ops K ⟨σ.f, σ.rows, fun _ _ => False, fun _ _ => False⟩
 else pstr E ops σ.clock 0 (ops.take (ops.length - tl)) (pops E ops (ops.drop (ops.length - tl)) K) ⟨σ.f, σ.rows, fun _ _ => False, fun _ _ => False⟩
inductive PX where
 | normal
 | exit (id : Nat)
 | ret
def pseq (K : PS → Prop) (Q : PX → PS → Prop) : PX → PS → Prop
 | .normal, σ => K σ
 | .exit id, σ => Q (.exit id) σ
 | .ret, σ => Q .ret σ
def pblk (id : Nat) (Q : PX → PS → Prop) : PX → PS → Prop
 | .normal, σ => Q .normal σ
 | .exit j, σ => if j = id then Q .normal σ else Q (.exit j) σ
 | .ret, σ => Q .ret σ
def regOK (n tl : Nat) (ops : Array Oper) (draw : Bool) : Bool :=
 (ops.all fun o => match o.dst with | some d => decide (d < n) | none => true) &&
 (!draw || (newDst (if tl = 0 then ops.toList else ops.toList.take (ops.size - tl)) && (if tl = 0 then Region.noSelect ops && Region.lexHead .any ops 0 ops.size 0 (Array.replicate ops.size false) else decide (tl ≤ ops.size) && Region.lexTailB .any ops (ops.size - tl))))
def codeOK (n : Nat) (tl : Nat → Nat) : Code → Bool
 | .region id ops draw => regOK n (tl id) ops draw
 | .seq a b => codeOK n tl a && codeOK n tl b
 | .cond _ t e => codeOK n tl t && codeOK n tl e
 | .block _ c => codeOK n tl c
 | .loop c => codeOK n tl c
 | _ => true
section
variable {E : Env} {w0 : World} {S0 : Stab} {n : Nat} {G : Gs}
theorem pops_sound {ops : Array Oper} {K : PS → Prop} {Q : Exit → Act → World → Prop} (hK : ∀ σ' a' w', K σ' → Rel w0 S0 n G σ' a' w' → Q .normal a' w') :
  ∀ (l : List Oper) (σ : PS) (a : Act) (w : World), (∀ o ∈ l, ∀ t, o.dst = some t → t < n) → pops E ops.toList l K σ → Rel w0 S0 n G σ a w → wpList E.P ops Q l a w
 | [], σ, a, w, _, h, hR => hK _ _ _ h hR
 | o :: os, σ, a, w, hd, h, hR => by
  have hdo := hd o (by simp)
  have hds : ∀ o ∈ os, ∀ t, o.dst = some t → t < n := fun o ho => hd o (by simp [ho])
  have wanted : ∀ {σ}, pfree E o (pops E ops.toList os K) σ → Rel w0 S0 n G σ a w → o.wp E.P a w (wpList E.P ops Q os) Q := fun hp hR =>
   pfree_sound hp hR hdo fun σ' a' w' hk hR' => pops_sound hK os σ' a' w' hds hk hR'
  unfold wpList
  simp only [pops] at h
  split at h
  ·rename_i hg
   rw [if_pos (by simp [Region.wanted, hg])]
   exact .inl (wanted h hR)
  ·rename_i j want hg
   split at h
   ·exact h.elim
   ·rename_i d hd2
    have hd3 : (ops[j]?).bind (·.dst) = some d := by simpa using hd2
    have skip : yielded ops a.tmps j ≠ some want → pops E ops.toList os K (σ.put o.dst (.tup [])) → (if Region.wanted o (yielded ops a.tmps) = true then o.wp E.P a w (wpList E.P ops Q os) Q ∨ (o.asks E.P a w ∧ LetsOut Q) else wpList E.P ops Q os (a.put o.dst undef) w) := by
     intro hy h2
     rw [if_neg (by simpa [Region.wanted, hg] using hy)]
     refine pops_sound hK os _ _ w hds h2 ?_
     obtain ⟨⟨c, rfl, hr, hcl, hI, hf, hG⟩, hn, hdef⟩ := hR
     exact rel_put hf hG hn hdef (Adv.refl c) hI rep_no hdo rfl (by simp [PS.put, hr]) hcl
    obtain ⟨c, _, _, _, _, hf, _⟩ := hR.ex
    have hx := hf d
    rcases h with ⟨h1, h2⟩ | ⟨h1 | h1, h2⟩
    ·rw [h1] at hx
     rw [if_pos (by simp [Region.wanted, hg, yielded_bool hd3 hx])]
     exact .inl (wanted h2 hR)
    ·rw [h1] at hx
     exact skip (by rw [yielded_bool hd3 hx]; cases want <;> simp) h2
    ·rw [h1] at hx
     exact skip (by rw [yielded_no hd3 hx]; simp) h2
theorem pstr_lex {ops : Array Oper} {c0 : Nat} {K : PS → Prop} : ∀ (l : List Oper) (k clk : Nat) (st : ST), (∀ j, j < l.length → l[j]? = ops[k + j]?) → newDst l = true → clk = c0 + rk ops.toList k → pstr E ops.toList clk k l K st → pLex E .any ops c0 (fun st => K ⟨st.f, st.rows, c0 + rk ops.toList (k + l.length)⟩) k l st
 | [], k, clk, st, _, _, hc, h => by subst hc; exact h
 | o :: os, k, clk, st, hl, hnd, hc, h => by
  have hnd1 : newDst os = true := by simp only [newDst, List.all_cons, Bool.and_eq_true] at hnd ⊢; exact hnd.2
  have hnd0 : o.guard ≠ none → isNew o.op = false := fun hg => by
   simp only [newDst, List.all_cons, Bool.and_eq_true] at hnd
   cases hn : isNew o.op with
   | false => rfl
   | true => have := hnd.1; rw [hn] at this; simp at this; exact absurd this.2 hg
  have h0 : ops[k]? = some o := by simpa using (hl 0 (by simp)).symm
  have hc1 : clkN o.op clk = c0 + rk ops.toList (k + 1) := by rw [hc]; exact clkN_rk (by simpa using h0)
  have hl1 : ∀ j, j < os.length → os[j]? = ops[k + 1 + j]? := fun j hj => by have := hl (j + 1) (by simp; omega); simpa [Nat.add_assoc, Nat.add_comm 1 j] using this
  have e1 : k + (o :: os).length = k + 1 + os.length := by simp only [List.length_cons]; omega
  rw [e1]
  simp only [pstr] at h
  split at h
  ·rename_i hg
   obtain ⟨v, u, h1, h2, h3⟩ := h
   exact ⟨true, v, u, ⟨by simp [gOK, hg], by rw [if_pos rfl, ← hc]; exact h1⟩, h2, pstr_lex os _ _ _ hl1 hnd1 hc1 h3⟩
  ·rename_i j want hg
   split at h
   ·exact h.elim
   ·rename_i d hd2
    have hd3 : (ops[j]?).bind (·.dst) = some d := by simpa using hd2
    rcases h with ⟨h1, v, u, q1, q2, q3⟩ | ⟨h1, h2⟩
    ·exact ⟨true, v, u, ⟨by simp only [gOK, hg]; exact ⟨d, hd3, .inl ⟨h1, trivial⟩⟩, by rw [if_pos rfl, ← hc]; exact q1⟩, q2, pstr_lex os _ _ _ hl1 hnd1 hc1 q3⟩
    ·exact ⟨false, .tup [], none, ⟨by simp only [gOK, hg]; exact ⟨d, hd3, .inr ⟨h1, trivial⟩⟩, by simp⟩, trivial, pstr_lex os _ _ _ hl1 hnd1 (by rw [← hc1, clkN_old (hnd0 (by rw [hg]; simp))]) h2⟩
theorem Rel.drew {σ : PS} {a : Act} {w : World} (h : Rel w0 S0 n G σ a w) : Rel w0 S0 n G σ a { w with drawn := w.drawn + 1 } := by
 obtain ⟨⟨c, rfl, hr, hcl, hI, hf, hG⟩, hn, hdef⟩ := h
 obtain ⟨hI', hA⟩ := hI.grow (w' := { c.w with drawn := c.w.drawn + 1 }) (S' := c.S) ⟨rfl, rfl, rfl, Nat.le_refl _, fun _ _ => rfl⟩ (fun _ _ h => h) (fun _ _ h => .inl h)
 exact ⟨⟨{ c with w := { c.w with drawn := c.w.drawn + 1 } }, rfl, hr, hcl, hI', fun s => RepV.adv hA _ _ (hf s), fun p hp => RepV.adv hA _ _ (hG p hp)⟩, hn, hdef⟩
theorem pregion_sound {id tl : Nat} {ops : Array Oper} {K : PS → Prop} {Q : Exit → Act → World → Prop} (hok : regOK n tl ops true = true) {σ : PS} {a : Act} {w : World} (h : pregion E tl ops.toList K σ) (hR : Rel w0 S0 n G σ a w)
  (hK : ∀ σ' a' w', K σ' → Rel w0 S0 n G σ' a' w' → Q .normal a' w') : (Code.region id ops true).wp E.P Q a w := by
 simp only [regOK, Bool.and_eq_true, Bool.not_true, Bool.false_or] at hok
 obtain ⟨hdst, honce, hok⟩ := hok
 have hd : ∀ o, o ∈ ops → ∀ t, o.dst = some t → t < n := by
  intro o ho t ht
  have := Array.all_eq_true_iff_forall_mem.1 hdst o ho
  simpa [ht] using this
 refine wp_region_any E.mixed ?_
 have hR0 := hR.drew
 have hU0 : ∀ k (l : Array Bool), RelU w0 S0 n G (Ul ops σ.clock k l) σ.f σ.rows a { w with drawn := w.drawn + 1 } := fun k l => hR0.mono fun v hv => .inl hv
 have hDst : ∀ (l : List Oper), newDst l = true → ∀ (i : Nat) (oi : Oper), l[i]? = some oi → isNew oi.op = true → oi.dst.isSome = true := fun l h i oi hi hn => by
  have := List.all_eq_true.1 h oi (List.mem_of_getElem? hi)
  rw [hn] at this; simp at this; exact Option.isSome_iff_exists.2 (by obtain ⟨x, hx⟩ := Option.isSome_iff_exists.1 this.1; exact ⟨x, hx⟩)
 unfold pregion at h
 by_cases htl : tl = 0
 ·rw [if_pos htl] at h hok honce
  have hnew : ∀ i oi, i < ops.size → ops[i]? = some oi → isNew oi.op = true → oi.dst.isSome = true := fun i oi _ hi => hDst _ honce i oi (by simpa using hi)
  simp only [Bool.and_eq_true] at hok
  have hl := pstr_lex (c0 := σ.clock) ops.toList 0 _ _ (by simp) honce (by simp [rk]) h
  have inv0 : HeadInv .any ops ops.size (Array.replicate ops.size false) :=
   ⟨by simp, fun j oj _ hl => (by rw [getD_replicate_false] at hl; cases hl), fun t h1 h2 => by omega⟩
  have htail : ∀ listed, HeadInv .any ops ops.size listed → ∀ i, i < ops.size → listed.getD i true = false → ∀ t, ops.size ≤ t → t ∉ Region.ready .any ops listed := by
   intro listed _ i _ _ t ht hr
   obtain ⟨_, o, ho, _⟩ := mem_ready.1 hr
   have := (Array.getElem?_eq_some_iff.1 ho).1
   omega
  have H := pAnyL_lex (E := E) (md := .any) (g := 0) hnew htail ops.toList 0 _ _ (by simp) (by simp) inv0 (by simpa using hok.2) hl
  have := wpAny_of_pAny (E := E) (md := .any) (g := 0) (Q := Q) (m := n) hd (fun listed st a' w' hL hR' => by
   obtain ⟨h1, h2⟩ := hL
   exact ⟨by simpa [Region.seqB] using h1, hK _ _ _ h2 (hR'.mono fun v hv => by have := Ul_end hv; simpa using this)⟩) _ _ _ _ _ (by simp) H (hU0 _ _)
  simpa using this
 ·rw [if_neg htl] at h hok honce
  have hnew : ∀ i oi, i < ops.size - tl → ops[i]? = some oi → isNew oi.op = true → oi.dst.isSome = true := fun i oi h1 hi => hDst _ honce i oi (by rw [List.getElem?_take, if_pos h1]; simpa using hi)
  simp only [Bool.and_eq_true, decide_eq_true_eq] at hok
  obtain ⟨hle, hB⟩ := hok
  simp only [Region.lexTailB, Bool.and_eq_true, decide_eq_true_eq] at hB
  obtain ⟨⟨⟨⟨hsel, hn'⟩, hs⟩, hc⟩, hlex⟩ := hB
  have hlen : ops.toList.length = ops.size := by simp
  rw [hlen] at h
  have hl := pstr_lex (c0 := σ.clock) (ops.toList.take (ops.size - tl)) 0 _ _ (fun j hj => by
   have hj' : j < ops.size - tl := by simpa using hj
   simp [hj']) honce (by simp [rk]) h
  have inv0 : HeadInv .any ops (ops.size - tl) (Array.replicate ops.size false) :=
   ⟨by simp, fun j oj _ hl => (by rw [getD_replicate_false] at hl; cases hl), fun t _ ht => getD_in (by simpa using ht) (getD_replicate_false _ _)⟩
  have htk : (ops.toList.take (ops.size - tl)).length = ops.size - tl := by simp
  have hdl : (ops.toList.drop (ops.size - tl)).length = ops.size - (ops.size - tl) := by simp
  have H := pAnyL_lex (E := E) (md := .any) (n := ops.size - tl) (g := ops.size - (ops.size - tl)) hnew (fun listed inv i hi hun t ht => tail_waits hs hc hn' inv _ i rfl hi hun t ht) (ops.toList.take (ops.size - tl)) 0 _ _ (fun j hj => by
   rw [htk] at hj
   simp [hj]) (by rw [htk]; simp) inv0 (by rw [htk]; exact hlex) hl
  have := wpAny_of_pAny (E := E) (md := .any) (g := ops.size - (ops.size - tl)) (Q := Q) (m := n) hd (fun listed st a' w' hL hR' => by
   obtain ⟨h1, h2⟩ := hL
   have h3 := pops_sound (ops := ops) (Q := Q) hK (ops.toList.drop (ops.size - tl)) _ a' w' (fun o ho => hd o (by simpa using List.mem_of_mem_drop ho)) h2 (hR'.mono fun v hv => by have := Ul_end hv; simpa using this)
   have h4 := wpAny_of_seq (md := .any) (Q' := Q) (ops.toList.drop (ops.size - tl)) (ops.size - tl) listed a' w' (fun j => by simp [List.getElem?_drop]) (by rw [hdl]; exact h1) h3
   rwa [hdl] at h4) _ _ _ _ _ (by simp) H (hU0 _ _)
  rw [htk, show ops.size - tl + (ops.size - (ops.size - tl)) = ops.size by omega] at this
  exact this
def conc : PX → Exit
 | .normal => .normal
 | .exit id => .exit id
 | .ret => .ret
end
end Pm
namespace Pm
open Go Go.RowKit
def praws (E : Env) (σ : PS) : List ResultVar → (List PV → Prop) → Prop
 | [], K => K []
 | .tmp t :: rs, K => praws E σ rs fun vs => K (σ.f t :: vs)
 | .cell a t :: rs, K => ∃ v, yload E t σ.rows (σ.f a) v ∧ praws E σ rs fun vs => K (v :: vs)
def pone : List PV → PV
 | [x] => x
 | l => .tup l
def pret (E : Env) (rs : List ResultVar) (r : PV) (σ : PS) : Prop :=
 praws E σ rs fun vs => rowsPers σ.rows (vs.flatMap idsV) ∧ (vs.map (pz σ.rows)).all pers = true ∧ r = pone (vs.map (pz σ.rows))
def pfin (E : Env) (rs : List ResultVar) (r : PV) : PX → PS → Prop
 | .normal, σ => pret E rs r σ
 | .ret, σ => pret E rs r σ
 | .exit _, _ => False
def pinit (args : List PV) : PS := ⟨fun s => args.getD s .undef, fun _ => none, 0⟩
section
variable {E : Env} {w0 : World} {S0 : Stab} {c : Cx}
theorem praws_run (hI : Inv w0 S0 c) {clk : Nat} {a : Act} {f : Nat → PV} (hf : ∀ s, RepV c (f s) (a.tmps.getD s undef)) {g : ResultVar → Sem Value} (hg1 : ∀ t, g (.tmp t) = pure (a.tmps.getD t undef))
  (hg2 : ∀ x t, g (.cell x t) = do loadVar t (← asAddr (a.tmps.getD x undef))) : ∀ (rs : List ResultVar) (K : List PV → Prop), praws E ⟨f, c.rows, clk⟩ rs K →
  ∃ vs us, K vs ∧ All2 (RepV c) vs us ∧ (rs.mapM g : Sem (List Value)).run E.P c.w = .ok us c.w
 | [], K, h => ⟨[], [], h, trivial, by simp⟩
 | .tmp t :: rs, K, h => by
  obtain ⟨vs, us, h1, h2, h3⟩ := praws_run hI hf hg1 hg2 rs _ h
  exact ⟨f t :: vs, a.tmps.getD t undef :: us, h1, ⟨hf t, h2⟩, by
   rw [List.mapM_cons, hg1, Sem.run_bind, Sem.run_pure, Result.andThen_ok, Sem.run_bind, h3, Result.andThen_ok, Sem.run_pure]⟩
 | .cell x t :: rs, K, h => by
  obtain ⟨v, hv, h⟩ := h
  obtain ⟨vs, us, h1, h2, h3⟩ := praws_run hI hf hg1 hg2 rs _ h
  obtain ⟨u, hu, hr⟩ := yload_run hI (hf x) hv
  refine ⟨v :: vs, u :: us, h1, ⟨hr, h2⟩, ?_⟩
  have hu' : (do loadVar t (← asAddr (a.tmps.getD x undef)) : Sem Value).run E.P c.w = .ok u c.w := by
   simp only [Instr.loadAt, Sem.run_bind] at hu ⊢
   cases hx : a.tmps.getD x undef with
   | pointer p =>
    cases p with
    | some ad => rw [hx] at hu; simpa [Instr.sureAddr, asAddr] using hu
    | none => rw [hx] at hu; simp [Instr.sureAddr, stuck, Result.andThen] at hu
   | _ => rw [hx] at hu; simp [Instr.sureAddr, stuck, Result.andThen] at hu
  rw [List.mapM_cons, hg2]
  simp only [Sem.run_bind] at hu' ⊢
  rw [hu', Result.andThen_ok, h3, Result.andThen_ok, Sem.run_pure]
theorem ret_of_sem {fid : FuncId} {fn : Func} {code : Code} {args : List PV} {r : PV} (h1 : E.P.funcs[fid]? = some fn) (h2 : fn.body = some code) (h3 : (fn.name == "runtime.NumGoroutine") = false) (hargs : args.length ≤ fn.ntmps)
  (h : ∀ (w0 : World) (S0 : Stab) (a : Act) (w : World) (Q' : Exit → Act → World → Prop), Rel w0 S0 fn.ntmps Gs.none (pinit args) a w → (∀ x σ' a' w', pfin E fn.results.toList r x σ' → Rel w0 S0 fn.ntmps Gs.none σ' a' w' → Q' (conc x) a' w') → code.wp E.P Q' a w) : Ret E.P fid args r := by
 refine ⟨⟨fn, code, h1, h2, h3⟩, fun w S vs hS hrep => ?_⟩
 have hrep' := RepList_iff.1 hrep
 refine calls_of_wp h1 h2 ?_
 have hvl : vs.length = args.length := hrep'.length.symm
 let c0 : Cx := ⟨S, w, fun _ => .slice none 0 0, fun _ => none, fun _ => False⟩
 have hI0 : Inv w S c0 := ⟨Below.refl _ _, fun _ _ h => h, fun _ _ h => .inl h, hS, fun _ _ h => by simp [c0] at h, fun _ _ h => by simp [c0] at h, fun _ _ _ _ _ h => by simp [c0] at h⟩
 have hR0 : Rel w S fn.ntmps Gs.none (pinit args) { tmps := vs.toArray ++ Array.replicate (fn.ntmps - vs.toArray.size) undef, defers := [] } w := by
  refine ⟨⟨c0, rfl, rfl, fun _ h => h.elim, hI0, fun s => ?_, fun p hp => (Gs.not_none hp).elim⟩, by simp; omega, rfl⟩
  simp only [pinit]
  by_cases hs : s < args.length
  ·obtain ⟨u, hu, hr⟩ := hrep'.get (List.getElem?_eq_getElem hs)
   have e1 : args.getD s .undef = args[s] := by simp [List.getD, List.getElem?_eq_getElem hs]
   have e2 : (vs.toArray ++ Array.replicate (fn.ntmps - vs.toArray.size) undef).getD s undef = u := by
    have : s < vs.length := by omega
    simp [this] at hu ⊢
    simp [Array.getElem?_append, this, hu]
   rw [e1]
   show RepV c0 args[s] ((vs.toArray ++ Array.replicate (fn.ntmps - vs.toArray.size) undef).getD s undef)
   rw [e2]
   exact RepV.of_rep hr
  ·have e1 : args.getD s .undef = .undef := by simp [List.getD, List.getElem?_eq_none (show args.length ≤ s by omega)]
   rw [e1]
   simp [RepV, RepC]
 refine h _ _ _ _ _ hR0 ?_
 have fin : ∀ σ' a' w', pret E fn.results.toList r σ' → Rel w S fn.ntmps Gs.none σ' a' w' → a'.defers = [] ∧ ∃ v, (results fn a'.tmps).run E.P w' = .ok v w' ∧ (∃ v', Ending.returned v = .returned v' ∧ Below w.heap.size w w' ∧
   ∃ S' : Stab, (∀ b o, S b o → S' b o) ∧ (∀ b o, S' b o → S b o ∨ (w.heap.size ≤ b ∧ b < w'.heap.size)) ∧ Rep S' w' r v') := by
  rintro σ' a' w' hp ⟨⟨c, rfl, hr, hcl, hI, hf, _⟩, hn, hdef⟩
  refine ⟨hdef, ?_⟩
  unfold pret at hp
  have hp' : praws E ⟨σ'.f, c.rows, σ'.clock⟩ fn.results.toList fun vs => rowsPers c.rows (vs.flatMap idsV) ∧ (vs.map (pz c.rows)).all pers = true ∧ r = pone (vs.map (pz c.rows)) := by
   rw [hr]; exact hp
  have hall0 : ∃ vs us, (rowsPers c.rows (vs.flatMap idsV) ∧ (vs.map (pz c.rows)).all pers = true ∧ r = pone (vs.map (pz c.rows))) ∧ All2 (RepV c) vs us ∧
    (results fn a'.tmps).run E.P c.w = .ok (if h : us.toArray.size = 1 then us.toArray[0] else .tuple us.toArray) c.w := by
   have key : ∀ g : ResultVar → Sem Value, (∀ t, g (.tmp t) = pure (a'.tmps.getD t undef)) → (∀ x t, g (.cell x t) = do loadVar t (← asAddr (a'.tmps.getD x undef))) →
     ∃ vs us, (rowsPers c.rows (vs.flatMap idsV) ∧ (vs.map (pz c.rows)).all pers = true ∧ r = pone (vs.map (pz c.rows))) ∧ All2 (RepV c) vs us ∧
      (do let vs ← fn.results.mapM g; pure (if h : vs.size = 1 then vs[0] else .tuple vs) : Sem Value).run E.P c.w = .ok (if h : us.toArray.size = 1 then us.toArray[0] else .tuple us.toArray) c.w := by
    intro g hg1 hg2
    obtain ⟨vs, us, g1, g4, g5⟩ := praws_run hI hf hg1 hg2 _ _ hp'
    refine ⟨vs, us, g1, g4, ?_⟩
    have : (fn.results.mapM g).run E.P c.w = .ok us.toArray c.w := by
     rw [Array.mapM_eq_mapM_toList]
     simp [g5]
    rw [Sem.run_bind, this, Result.andThen_ok, Sem.run_pure]
   unfold results
   exact key _ (fun _ => rfl) (fun _ _ => rfl)
  obtain ⟨vs, us, ⟨g1, g2, g3⟩, g4, hrun⟩ := hall0
  have hIf := hI.freeze (vs.flatMap idsV)
  have hall : All2 (Rep (frS c (vs.flatMap idsV)) c.w) (vs.map (pz c.rows)) us := by
   refine All2.of_get (by simp [g4.length]) fun k p u hp hu => ?_
   simp at hp
   obtain ⟨q, hq, rfl⟩ := hp
   obtain ⟨u', q1, q2⟩ := g4.get hq
   rw [hu] at q1; cases q1
   exact pz_rep hI g1 q2 (fun id hid => by simp only [List.mem_flatMap]; exact ⟨q, List.mem_of_getElem? hq, hid⟩) (List.all_eq_true.1 g2 _ (by simp; exact ⟨q, List.mem_of_getElem? hq, rfl⟩))
  refine ⟨_, hrun, _, rfl, hI.below, frS c (vs.flatMap idsV), fun b o h => hIf.ext b o h, fun b o h => hIf.new b o h, ?_⟩
  rw [g3]
  have hl := hall.length
  cases hm : vs.map (pz c.rows) with
  | nil =>
   rw [hm] at hall hl
   have : us = [] := List.eq_nil_of_length_eq_zero (by simpa using hl.symm)
   subst this
   simp only [pone, Rep]
   exact ⟨[], by simp, by simp [RepList]⟩
  | cons p ps =>
   rw [hm] at hall hl
   match us, hall with
   | u :: us, hall =>
    cases ps with
    | nil =>
     match us, hall with
     | [], hall => simpa [pone] using hall.1
    | cons q qs =>
     have h2 : ¬ (u :: us).toArray.size = 1 := by simp at hl ⊢; intro h; subst h; simp at hl
     rw [dif_neg h2]
     simp only [pone, Rep]
     exact ⟨_, rfl, RepList_iff.2 hall⟩
 intro x σ' a' w' hx hR'
 cases x with
 | normal => exact fin σ' a' w' hx hR'
 | ret => exact fin σ' a' w' hx hR'
 | exit id => exact hx.elim
end
end Pm
namespace Pm
open Go Go.RowKit
section
variable {P : Program} {t : TypeId}
theorem zeroOK_of {n : Nat} {v : Value} {z : List PV} (h : (P.info? t).bind (fun i => i.zero.map fun v => (i.size, v)) = some (n, v)) (hz : v.cells.toList.map constC = z) (h1 : v.cells.all (·.oneCell') = true) (hl : z.length = n) (hp : 0 < n) : ZeroOK P t n z := by
 refine ⟨?_, hl, hp⟩
 cases hi : P.info? t with
 | none => simp [hi] at h
 | some i =>
  cases hz0 : i.zero with
  | none => simp [hi, hz0] at h
  | some v0 =>
   simp [hi, hz0] at h
   obtain ⟨rfl, rfl⟩ := h
   exact ⟨i, v0, rfl, hz0, rfl, hz, h1⟩
theorem bytesOK_of {b : Nat} (h : (P.info? t).map (·.bytes) = some b) : ∃ i, P.info? t = some i ∧ i.bytes = b := by
 cases hi : P.info? t with
 | none => simp [hi] at h
 | some i => exact ⟨i, rfl, by simpa [hi] using h⟩
theorem sizeOK_of {n : Nat} (h : (P.info? t).map (·.size) = some n) : ∃ i, P.info? t = some i ∧ i.size = n := by
 cases hi : P.info? t with
 | none => simp [hi] at h
 | some i => exact ⟨i, rfl, by simpa [hi] using h⟩
theorem undOK_of (h : (P.underlying t).isSome = true) : ∃ d, P.underlying t = some d := Option.isSome_iff_exists.1 h
def fieldB (P : Program) (f : Field) (x : Nat × Nat × Bool) : Bool :=
 f.offset == x.1 && (P.info? f.type).map (·.size) == some x.2.1 && decide (0 < x.2.1) && isAggB P f.type == x.2.2 && (P.underlying f.type).isSome
def fieldsB (P : Program) : List Field → List (Nat × Nat × Bool) → Bool
 | [], [] => true
 | f :: fs, x :: xs => fieldB P f x && fieldsB P fs xs
 | _, _ => false
theorem fieldB_ok {f : Field} {x : Nat × Nat × Bool} (h : fieldB P f x = true) : FieldOK P f x := by
 simp only [fieldB, Bool.and_eq_true, beq_iff_eq, decide_eq_true_eq] at h
 obtain ⟨⟨⟨⟨h1, h2⟩, h3⟩, h4⟩, h5⟩ := h
 exact ⟨h1, sizeOK_of h2, h3, h4, undOK_of h5⟩
theorem fieldsB_ok : ∀ {fs : List Field} {xs : List (Nat × Nat × Bool)}, fieldsB P fs xs = true → All2 (FieldOK P) fs xs
 | [], [], _ => trivial
 | f :: fs, x :: xs, h => by
  simp only [fieldsB, Bool.and_eq_true] at h
  exact ⟨fieldB_ok h.1, fieldsB_ok h.2⟩
 | [], _ :: _, h => by simp [fieldsB] at h
 | _ :: _, [], h => by simp [fieldsB] at h
def structB (P : Program) (t : TypeId) (xs : List (Nat × Nat × Bool)) : Bool :=
 match P.underlying t with
 | some (.struct fields) => fieldsB P fields.toList xs
 | _ => false
theorem structOK_of {xs : List (Nat × Nat × Bool)} (h : structB P t xs = true) : ∃ fields : Array Field, P.underlying t = some (.struct fields) ∧ All2 (FieldOK P) fields.toList xs := by
 unfold structB at h
 split at h
 ·rename_i fields hu; exact ⟨fields, hu, fieldsB_ok h⟩
 ·cases h
end
end Pm
namespace Pm
open Go Go.RowKit
def W (E : Env) (n : Nat) (tl : Nat → Nat) (c : Code) (Q : PX → PS → Prop) (σ : PS) : Prop :=
 codeOK n tl c = true → ∀ (w0 : World) (S0 : Stab) (G : Gs) (a : Act) (w : World) (Q' : Exit → Act → World → Prop), Rel w0 S0 n G σ a w →
  (∀ x σ' a' w', Q x σ' → Rel w0 S0 n G σ' a' w' → Q' (conc x) a' w') → c.wp E.P Q' a w
def Gh (n : Nat) (σ σ' : PS) : Prop := ∀ (w0 : World) (S0 : Stab) (G : Gs) (a : Act) (w : World), Rel w0 S0 n G σ a w → Rel w0 S0 n G σ' a w
section
variable {E : Env} {n : Nat} {tl : Nat → Nat} {Q : PX → PS → Prop} {σ : PS}
theorem W.ghost {c : Code} {σ' : PS} (h : Gh n σ σ') (hw : W E n tl c Q σ') : W E n tl c Q σ := fun hok w0 S0 G a w Q' hR hQ => hw hok w0 S0 G a w Q' (h _ _ _ _ _ hR) hQ
theorem W.mono {c : Code} {Q2 : PX → PS → Prop} (hw : W E n tl c Q2 σ) (h : ∀ x σ, Q2 x σ → Q x σ) : W E n tl c Q σ := fun hok w0 S0 G a w Q' hR hQ => hw hok w0 S0 G a w Q' hR fun x σ' a' w' hx => hQ x σ' a' w' (h x σ' hx)
theorem W.skip (h : Q .normal σ) : W E n tl .skip Q σ := fun _ _ _ _ a w _ hR hQ => wp_skip (hQ .normal σ a w h hR)
theorem W.ret (h : Q .ret σ) : W E n tl .ret Q σ := fun _ _ _ _ a w _ hR hQ => wp_ret (hQ .ret σ a w h hR)
theorem W.exit {id : Nat} (h : Q (.exit id) σ) : W E n tl (.exit id) Q σ := fun _ _ _ _ a w _ hR hQ => wp_exit (hQ (.exit id) σ a w h hR)
theorem W.region_k {id : Nat} {ops : List Oper} (h : ∀ K : PS → Prop, (∀ σ, Q .normal σ → K σ) → pops E ops ops K σ) : W E n tl (.region id ops.toArray false) Q σ := by
 intro hok w0 S0 G a w Q' hR hQ
 simp only [codeOK, regOK, Bool.and_eq_true] at hok
 refine wp_region_list (pops_sound (fun σ' a' w' hk hR' => hQ .normal σ' a' w' hk hR') _ σ a w (fun o ho t ht => ?_) (h _ fun _ h => h) hR)
 have := Array.all_eq_true_iff_forall_mem.1 hok.1 o (by simpa using ho)
 simpa [ht] using this
theorem W.draw_k {id : Nat} {ops : List Oper} (h : ∀ K : PS → Prop, (∀ σ, Q .normal σ → K σ) → pregion E (tl id) ops K σ) : W E n tl (.region id ops.toArray true) Q σ := by
 intro hok w0 S0 G a w Q' hR hQ
 exact pregion_sound (by simpa [codeOK] using hok) (h _ fun _ h => h) hR fun σ' a' w' hk hR' => hQ .normal σ' a' w' hk hR'
theorem W.seq {x y : Code} (h : W E n tl x (pseq (W E n tl y Q) Q) σ) : W E n tl (.seq x y) Q σ := by
 intro hok w0 S0 G a w Q' hR hQ
 simp only [codeOK, Bool.and_eq_true] at hok
 refine wp_seq (h hok.1 w0 S0 G a w _ hR fun x σ' a' w' hx hR' => ?_)
 cases x with
 | normal => exact hx hok.2 w0 S0 G a' w' _ hR' hQ
 | exit id => exact hQ (.exit id) σ' a' w' hx hR'
 | ret => exact hQ .ret σ' a' w' hx hR'
theorem W.seq_region {id : Nat} {ops : List Oper} {y : Code} (h : ∀ K : PS → Prop, (∀ σ, W E n tl y Q σ → K σ) → pops E ops ops K σ) : W E n tl (.seq (.region id ops.toArray false) y) Q σ :=
 W.seq (W.region_k h)
theorem W.seq_draw {id : Nat} {ops : List Oper} {y : Code} (h : ∀ K : PS → Prop, (∀ σ, W E n tl y Q σ → K σ) → pregion E (tl id) ops K σ) : W E n tl (.seq (.region id ops.toArray true) y) Q σ :=
 W.seq (W.draw_k h)
theorem W.cond {c : Operand} {t e : Code} (h : ∃ b, evf σ.f c = .bool b ∧ (b = true → W E n tl t Q σ) ∧ (b = false → W E n tl e Q σ)) : W E n tl (.cond c t e) Q σ := by
 intro hok w0 S0 G a w Q' hR hQ
 simp only [codeOK, Bool.and_eq_true] at hok
 obtain ⟨b, hb, h1, h2⟩ := h
 obtain ⟨cx, _, _, _, _, hf, _⟩ := hR.ex
 have := evf_rep hf c
 rw [hb, rep_bool] at this
 refine wp_cond this ?_
 cases b with
 | true => exact h1 rfl hok.1 w0 S0 G a w Q' hR hQ
 | false => exact h2 rfl hok.2 w0 S0 G a w Q' hR hQ
theorem W.block {id : Nat} {c : Code} (h : W E n tl c (pblk id Q) σ) : W E n tl (.block id c) Q σ := by
 intro hok w0 S0 G a w Q' hR hQ
 refine wp_block (h hok w0 S0 G a w _ hR fun x σ' a' w' hx hR' => ?_)
 cases x with
 | normal => exact hQ .normal σ' a' w' hx hR'
 | exit j =>
  simp only [pblk] at hx
  simp only [conc, Exit.inBlock]
  split at hx
  ·rename_i hj; rw [if_pos hj]; exact hQ .normal σ' a' w' hx hR'
  ·rename_i hj; rw [if_neg hj]; exact hQ (.exit j) σ' a' w' hx hR'
 | ret => exact hQ .ret σ' a' w' hx hR'
theorem W.loop {c : Code} (I : Nat → PS → Prop) (k : Nat) (h0 : I k σ) (h1 : ∀ k σ, I k σ → W E n tl c (pseq (fun σ' => ∃ m, m < k ∧ I m σ') Q) σ) : W E n tl (.loop c) Q σ := by
 intro hok w0 S0 G a w Q' hR hQ
 refine wp_loop_ghost (fun k a w => ∃ σ, I k σ ∧ Rel w0 S0 n G σ a w) k ⟨σ, h0, hR⟩ ?_
 rintro k a w ⟨σ, hI, hR⟩
 refine h1 k σ hI hok w0 S0 G a w _ hR fun x σ' a' w' hx hR' => ?_
 cases x with
 | normal => obtain ⟨m, hm, hI'⟩ := hx; exact ⟨m, hm, σ', hI', hR'⟩
 | exit id => exact hQ (.exit id) σ' a' w' hx hR'
 | ret => exact hQ .ret σ' a' w' hx hR'
end
theorem ret_of_W {E : Env} {fid : FuncId} {fn : Func} {code : Code} (tl : Nat → Nat) {args : List PV} {r : PV} (h1 : E.P.funcs[fid]? = some fn) (h2 : fn.body = some code) (h3 : (fn.name == "runtime.NumGoroutine") = false)
  (hok : codeOK fn.ntmps tl code = true) (hargs : args.length ≤ fn.ntmps) (h : W E fn.ntmps tl code (pfin E fn.results.toList r) (pinit args)) : Ret E.P fid args r :=
 ret_of_sem h1 h2 h3 hargs fun w0 S0 a w Q' hR hQ => h hok w0 S0 Gs.none a w Q' hR hQ
end Pm
namespace Pm
open Go Go.RowKit
def go (P : Prop) : Prop := P
def stepV (R : PV → Prop) (K : PV → Prop) : Prop := ∃ v, R v ∧ K v
def stepB (p : PV) (want : Bool) (A B : Prop) : Prop := ∃ t, p = .bool t ∧ (t = want → A) ∧ (t = (!want) → B)
def stepG (p : PV) (want : Bool) (A B : Prop) : Prop := (p = .bool want ∧ A) ∨ ((p = .bool (!want) ∨ p = .tup []) ∧ B)
def stepA (A B : Prop) : Prop := A ∧ B
@[congr] theorem stepV_congr {R R' K : PV → Prop} (h : ∀ v, R v = R' v) : stepV R K = stepV R' K := by rw [show R = R' from funext h]
@[congr] theorem stepB_congr {p p' : PV} {want : Bool} {A B : Prop} (h : p = p') : stepB p want A B = stepB p' want A B := by rw [h]
@[congr] theorem stepG_congr {p p' : PV} {want : Bool} {A B : Prop} (h : p = p') : stepG p want A B = stepG p' want A B := by rw [h]
@[congr] theorem stepA_congr {A A' B : Prop} (h : A = A') : stepA A B = stepA A' B := by rw [h]
@[congr] theorem pops_congr {E : Env} {ops l : List Oper} {K : PS → Prop} {σ σ' : PS} (h : σ = σ') : pops E ops l K σ = pops E ops l K σ' := by rw [h]
@[congr] theorem pstr_congr {E : Env} {ops l : List Oper} {clk k k' : Nat} {K : PS → Prop} {σ σ' : ST} (hk : k = k') (h : σ = σ') : pstr E ops clk k l K σ = pstr E ops clk k' l K σ' := by rw [hk, h]
@[congr] theorem depL_congr {md : Region.Mode} {ops : List Oper} {j j' k k' : Nat} (hj : j = j') (hk : k = k') : depL md ops j k = depL md ops j' k' := by rw [hj, hk]
@[congr] theorem okT_congr {md : Region.Mode} {ops : List Oper} {i i' id id' : Nat} {t t' : Nat → Nat → Prop} (hi : i = i') (hid : id = id') (ht : t = t') : okT md ops i id t = okT md ops i' id' t' := by rw [hi, hid, ht]
@[congr] theorem vrow_congr {md : Region.Mode} {ops : List Oper} {i i' : Nat} {t t' : Nat → Nat → Prop} {rows rows' : Rows} (hi : i = i') (ht : t = t') (hr : rows = rows') : vrow md ops i t rows = vrow md ops i' t' rows' := by rw [hi, ht, hr]
@[congr] theorem pregion_congr {E : Env} {tl : Nat} {l : List Oper} {K : PS → Prop} {σ σ' : PS} (h : σ = σ') : pregion E tl l K σ = pregion E tl l K σ' := by rw [h]
@[congr] theorem W_congr {E : Env} {n : Nat} {tl : Nat → Nat} {c : Code} {Q : PX → PS → Prop} {σ σ' : PS} (h : σ = σ') : W E n tl c Q σ = W E n tl c Q σ' := by rw [h]
theorem stepV_eq {t : PV} {K : PV → Prop} : stepV (fun v => v = t) K = K t := by simp [stepV]
theorem stepV_eq' {t : PV} {K : PV → Prop} : stepV (fun v => t = v) K = K t := by simp [stepV]
theorem stepV_and {c : Prop} {R K : PV → Prop} : stepV (fun v => c ∧ R v) K = stepA c (stepV R K) := by
 apply propext; simp only [stepV, stepA]
 constructor
 ·rintro ⟨v, ⟨h1, h2⟩, h3⟩; exact ⟨h1, v, h2, h3⟩
 ·rintro ⟨h1, v, h2, h3⟩; exact ⟨v, ⟨h1, h2⟩, h3⟩
theorem stepV_ex {α : Type} {R : α → PV → Prop} {K : PV → Prop} : stepV (fun v => ∃ x, R x v) K = ∃ x, stepV (R x) K := by
 apply propext; simp only [stepV]
 constructor
 ·rintro ⟨v, ⟨x, h2⟩, h3⟩; exact ⟨x, v, h2, h3⟩
 ·rintro ⟨x, v, h2, h3⟩; exact ⟨v, ⟨x, h2⟩, h3⟩
theorem stepA_true {B : Prop} : stepA True B = B := by simp [stepA]
theorem stepB_tt {A B : Prop} : stepB (.bool true) true A B = A := by simp [stepB]
theorem stepB_tf {A B : Prop} : stepB (.bool true) false A B = B := by simp [stepB]
theorem stepB_ft {A B : Prop} : stepB (.bool false) true A B = B := by simp [stepB]
theorem stepG_tt {A B : Prop} : stepG (.bool true) true A B = A := by simp [stepG]
theorem stepG_tf {A B : Prop} : stepG (.bool true) false A B = B := by simp [stepG]
theorem stepG_ft {A B : Prop} : stepG (.bool false) true A B = B := by simp [stepG]
theorem stepG_ff {A B : Prop} : stepG (.bool false) false A B = A := by simp [stepG]
theorem stepG_no {w : Bool} {A B : Prop} : stepG (.tup []) w A B = B := by simp [stepG]
theorem stepB_ff {A B : Prop} : stepB (.bool false) false A B = A := by simp [stepB]
theorem put_some {f : Nat → PV} {d j : Nat} {v : PV} : put f (some d) v j = if j = d then v else f j := rfl
theorem put_none {f : Nat → PV} {v : PV} : put f none v = f := rfl
theorem upd_at {α : Type} {f : Nat → α} {i j : Nat} {x : α} : upd f i x j = if j = i then x else f j := rfl
def fa : List (Nat × PV) → Nat → PV
 | [], _ => .undef
 | (i, v) :: l, j => if j = i then v else fa l j
theorem fa_nil {j : Nat} : fa [] j = .undef := rfl
theorem fa_cons {i j : Nat} {v : PV} {l : List (Nat × PV)} : fa ((i, v) :: l) j = if j = i then v else fa l j := rfl
section
variable {E : Env} {ops os : List Oper} {K : PS → Prop} {f : Nat → PV} {rows : Rows} {clk : Nat} {d : Option Tmp} {ty : TypeId} {pos : String} {af : Array Edge}
theorem Gh_fa (n : Nat) (l : List Nat) : Gh n ⟨f, rows, clk⟩ ⟨fa (l.map fun i => (i, f i)), rows, clk⟩ := by
 rintro w0 S0 G a w ⟨⟨c, h1, h2, h3, h4, h5, h6⟩, h7, h8⟩
 refine ⟨⟨c, h1, h2, h3, h4, fun s => ?_, h6⟩, h7, h8⟩
 have : fa (l.map fun i => (i, f i)) s = f s ∨ fa (l.map fun i => (i, f i)) s = .undef := by
  induction l with
  | nil => exact .inr rfl
  | cons i l ih =>
   simp only [List.map_cons, fa]
   split
   ·rename_i h; rw [h]; exact .inl rfl
   ·exact ih
 rcases this with h | h
 ·simp only; rw [h]; exact h5 s
 ·simp only; rw [h]; simp [RepV, RepC]
theorem W.live {n : Nat} {tl : Nat → Nat} {c : Code} {Q : PX → PS → Prop} (l : List Nat) (h : W E n tl c Q ⟨fa (l.map fun i => (i, f i)), rows, clk⟩) : W E n tl c Q ⟨f, rows, clk⟩ := W.ghost (Gh_fa n l) h
theorem pops_guard {op : Op} {j : Nat} {want : Bool} : pops E ops (⟨d, op, ty, pos, af, some (j, want)⟩ :: os) K ⟨f, rows, clk⟩ =
  match (ops[j]?).bind (·.dst) with
  | none => False
  | some e => stepG (f e) want (pops E ops (⟨d, op, ty, pos, af, none⟩ :: os) K ⟨f, rows, clk⟩) (pops E ops os K ⟨put f d (.tup []), rows, clk⟩) := by
 simp only [pops]
 cases hx : (ops[j]?).bind (·.dst) with
 | none => rfl
 | some e => rfl
theorem pfree_dflt {R : PV → Prop} {k : PV → Prop} (h : ∀ v, R v ↔ k v) : (∃ v u, (R v ∧ u = none) ∧ K ⟨put f d v, applyU rows u, clk⟩) = stepV k fun v => K ⟨put f d v, rows, clk⟩ := by
 apply propext; simp only [stepV]
 constructor
 ·rintro ⟨v, u, ⟨h1, rfl⟩, h2⟩; exact ⟨v, (h v).1 h1, h2⟩
 ·rintro ⟨v, h1, h2⟩; exact ⟨v, none, ⟨(h v).2 h1, rfl⟩, h2⟩
theorem pops_move {x : Operand} : pops E ops (⟨d, .move x, ty, pos, af, none⟩ :: os) K ⟨f, rows, clk⟩ = pops E ops os K ⟨put f d (evf f x), rows, clk⟩ := by
 simp only [pops, pfree, ys, yv]
 rw [pfree_dflt (k := fun v => v = evf f x) (fun v => Iff.rfl), stepV_eq]
theorem pops_assign {x : Operand} : pops E ops (⟨d, .assign x, ty, pos, af, none⟩ :: os) K ⟨f, rows, clk⟩ = pops E ops os K ⟨put f d (evf f x), rows, clk⟩ := by
 simp only [pops, pfree, ys, yv]
 rw [pfree_dflt (k := fun v => v = evf f x) (fun v => Iff.rfl), stepV_eq]
theorem pops_pick {c a b : Operand} : pops E ops (⟨d, .pick c a b, ty, pos, af, none⟩ :: os) K ⟨f, rows, clk⟩ = stepB (evf f c) true (pops E ops os K ⟨put f d (evf f a), rows, clk⟩) (pops E ops os K ⟨put f d (evf f b), rows, clk⟩) := by
 simp only [pops, pfree, ys, yv]
 rw [pfree_dflt (fun v => Iff.rfl)]
 apply propext; simp only [stepV, stepB]
 constructor
 ·rintro ⟨v, ⟨t, h1, rfl⟩, h2⟩
  refine ⟨t, h1, fun h => ?_, fun h => ?_⟩
  ·subst h; exact h2
  ·subst h; exact h2
 ·rintro ⟨t, h1, h2, h3⟩
  cases t with
  | true => exact ⟨_, ⟨true, h1, rfl⟩, h2 rfl⟩
  | false => exact ⟨_, ⟨false, h1, rfl⟩, h3 rfl⟩
theorem pops_bin {op : BinOp} {t t2 : TypeId} {x y : Operand} : pops E ops (⟨d, .binOp op t x y t2, ty, pos, af, none⟩ :: os) K ⟨f, rows, clk⟩ = stepV (fun v => ybin E op t (evf f x) (evf f y) v) fun v => pops E ops os K ⟨put f d v, rows, clk⟩ := by
 simp only [pops, pfree, ys, yv]
 rw [pfree_dflt (fun v => Iff.rfl)]
theorem pops_un {op : UnOp} {t : TypeId} {x : Operand} : pops E ops (⟨d, .unOp op t x, ty, pos, af, none⟩ :: os) K ⟨f, rows, clk⟩ = stepV (fun v => yun op (evf f x) v) fun v => pops E ops os K ⟨put f d v, rows, clk⟩ := by
 simp only [pops, pfree, ys, yv]
 rw [pfree_dflt (k := fun v => yun op (evf f x) v) (fun v => Iff.rfl)]
theorem pops_conv {s t : TypeId} {x : Operand} : pops E ops (⟨d, .convert s t x, ty, pos, af, none⟩ :: os) K ⟨f, rows, clk⟩ = stepV (fun v => yconv (E.ty s) (E.ty t) (evf f x) v) fun v => pops E ops os K ⟨put f d v, rows, clk⟩ := by
 simp only [pops, pfree, ys, yv]
 rw [pfree_dflt (k := fun v => yconv (E.ty s) (E.ty t) (evf f x) v) (fun v => Iff.rfl)]
theorem pops_extract {i : Nat} {x : Operand} : pops E ops (⟨d, .extract x i, ty, pos, af, none⟩ :: os) K ⟨f, rows, clk⟩ = stepV (fun v => yext i (evf f x) v) fun v => pops E ops os K ⟨put f d v, rows, clk⟩ := by
 simp only [pops, pfree, ys, yv]
 rw [pfree_dflt (k := fun v => yext i (evf f x) v) (fun v => Iff.rfl)]
theorem pops_load {t : TypeId} {x : Operand} : pops E ops (⟨d, .load t x, ty, pos, af, none⟩ :: os) K ⟨f, rows, clk⟩ = stepV (fun v => yload E t rows (evf f x) v) fun v => pops E ops os K ⟨put f d v, rows, clk⟩ := by
 simp only [pops, pfree, ys, yv]
 rw [pfree_dflt (fun v => Iff.rfl)]
theorem pops_field {t : TypeId} {i : Nat} {x : Operand} : pops E ops (⟨d, .field t x i, ty, pos, af, none⟩ :: os) K ⟨f, rows, clk⟩ = stepV (fun v => yfield E t i (evf f x) v) fun v => pops E ops os K ⟨put f d v, rows, clk⟩ := by
 simp only [pops, pfree, ys, yv]
 rw [pfree_dflt (fun v => Iff.rfl)]
theorem pops_fieldAddr {t : TypeId} {i : Nat} {x : Operand} : pops E ops (⟨d, .fieldAddr t x i, ty, pos, af, none⟩ :: os) K ⟨f, rows, clk⟩ = stepV (fun v => yfieldAddr E t rows i (evf f x) v) fun v => pops E ops os K ⟨put f d v, rows, clk⟩ := by
 simp only [pops, pfree, ys, yv]
 rw [pfree_dflt (fun v => Iff.rfl)]
theorem pops_indexAddr {t : TypeId} {x y : Operand} : pops E ops (⟨d, .indexAddr t x y, ty, pos, af, none⟩ :: os) K ⟨f, rows, clk⟩ = stepV (fun v => yindexAddr E t rows (evf f x) (evf f y) v) fun v => pops E ops os K ⟨put f d v, rows, clk⟩ := by
 simp only [pops, pfree, ys, yv]
 rw [pfree_dflt (fun v => Iff.rfl)]
theorem pops_slice {t : TypeId} {x : Operand} {lo hi mx : Option Operand} : pops E ops (⟨d, .slice t x lo hi mx, ty, pos, af, none⟩ :: os) K ⟨f, rows, clk⟩ = stepV (fun v => yslice E t rows (evf f x) (lo.map (evf f)) (hi.map (evf f)) (mx.map (evf f)) v) fun v => pops E ops os K ⟨put f d v, rows, clk⟩ := by
 simp only [pops, pfree, ys, yv]
 rw [pfree_dflt (fun v => Iff.rfl)]
theorem pops_build {t : TypeId} {parts : Array (Nat × Operand)} : pops E ops (⟨d, .build t parts, ty, pos, af, none⟩ :: os) K ⟨f, rows, clk⟩ = stepV (fun v => ybuild (E.ty t) (parts.toList.map fun x => (x.1, evf f x.2)) v) fun v => pops E ops os K ⟨put f d v, rows, clk⟩ := by
 simp only [pops, pfree, ys, yv]
 rw [pfree_dflt (k := fun v => ybuild (E.ty t) (parts.toList.map fun x => (x.1, evf f x.2)) v) (fun v => Iff.rfl)]
theorem pops_index {t : TypeId} {x y : Operand} : pops E ops (⟨d, .index t x y, ty, pos, af, none⟩ :: os) K ⟨f, rows, clk⟩ = stepV (fun v => yindex (E.ty t) (evf f x) (evf f y) v) fun v => pops E ops os K ⟨put f d v, rows, clk⟩ := by
 simp only [pops, pfree, ys, yv]
 rw [pfree_dflt (k := fun v => yindex (E.ty t) (evf f x) (evf f y) v) (fun v => Iff.rfl)]
theorem pops_len {t : TypeId} {x : Operand} : pops E ops (⟨d, .call { callee := .builtin .len, args := ⟨[x]⟩, argTypes := ⟨[t]⟩ }, ty, pos, af, none⟩ :: os) K ⟨f, rows, clk⟩ = stepV (fun v => ylenV (E.ty t) rows (evf f x) v) fun v => pops E ops os K ⟨put f d v, rows, clk⟩ := by
 simp only [pops, pfree, ys, yv]
 rw [pfree_dflt (k := fun v => ylenV (E.ty t) rows (evf f x) v) (fun v => Iff.rfl)]
theorem pops_nilCheck {x : Operand} : pops E ops (⟨d, .nilCheck x, ty, pos, af, none⟩ :: os) K ⟨f, rows, clk⟩ = stepV (fun v => ynil rows (evf f x) v) fun v => pops E ops os K ⟨put f d v, rows, clk⟩ := by
 simp only [pops, pfree, ys, yv]
 rw [pfree_dflt (k := fun v => ynil rows (evf f x) v) (fun v => Iff.rfl)]
theorem pops_max {ts : Array TypeId} {x y : Operand} : pops E ops (⟨d, .call { callee := .builtin .max, args := ⟨[x, y]⟩, argTypes := ts }, ty, pos, af, none⟩ :: os) K ⟨f, rows, clk⟩ = stepV (fun v => ymax (evf f x) (evf f y) v) fun v => pops E ops os K ⟨put f d v, rows, clk⟩ := by
 simp only [pops, pfree, ys, yv]
 rw [pfree_dflt (fun v => Iff.rfl)]
theorem pops_min {ts : Array TypeId} {x y : Operand} : pops E ops (⟨d, .call { callee := .builtin .min, args := ⟨[x, y]⟩, argTypes := ts }, ty, pos, af, none⟩ :: os) K ⟨f, rows, clk⟩ = stepV (fun v => ymin (evf f x) (evf f y) v) fun v => pops E ops os K ⟨put f d v, rows, clk⟩ := by
 simp only [pops, pfree, ys, yv]
 rw [pfree_dflt (fun v => Iff.rfl)]
theorem pops_buildSlice {t : TypeId} {len : Nat} {parts : Array (Nat × Operand)} : pops E ops (⟨d, .buildSlice t len parts, ty, pos, af, none⟩ :: os) K ⟨f, rows, clk⟩ = stepV (fun v => ylit (E.ty t) rows len (parts.toList.map fun x => (x.1, evf f x.2)) v) fun v => pops E ops os K ⟨put f d v, rows, clk⟩ := by
 simp only [pops, pfree, ys]
 rw [pfree_dflt (fun v => Iff.rfl)]
theorem pops_store {t : TypeId} {p x : Operand} : pops E ops (⟨none, .store t p x, ty, pos, af, none⟩ :: os) K ⟨f, rows, clk⟩ = ∃ id r, ystore E t rows (evf f p) (evf f x) .undef (some (id, r)) ∧ pops E ops os K ⟨f, upd rows id (some r), clk⟩ := by
 simp only [pops, pfree, ys]
 apply propext
 constructor
 ·rintro ⟨v, u, h, h2⟩
  have h' := h
  obtain ⟨_, rfl, h3⟩ := h
  split at h3
  ·obtain ⟨_, _, _, _, _, _, _, _, _, _, rfl⟩ := h3
   exact ⟨_, _, h', h2⟩
  ·exact h3.elim
 ·rintro ⟨id, r, h, h2⟩; exact ⟨.undef, some (id, r), h, h2⟩
theorem pops_alloc {t : TypeId} : pops E ops (⟨d, .alloc t, ty, pos, af, none⟩ :: os) K ⟨f, rows, clk⟩ = stepA ((E.ty t).known = true) (pops E ops os K ⟨put f d (.ptr (d.getD 0) clk 0 0), upd rows (d.getD 0) (some ⟨clk, t, (E.ty t).size, [(E.ty t).zero]⟩), clk + 1⟩) := rfl
theorem pops_box {t : TypeId} {x : Operand} : pops E ops (⟨d, .box t x, ty, pos, af, none⟩ :: os) K ⟨f, rows, clk⟩ = stepA ((E.ty t).known = true) (∃ l, cellsS (evf f x) = some l ∧ (∀ q ∈ l, one1 rows q) ∧ l.length = (E.ty t).size ∧ pops E ops os K ⟨put f d (.ptr (d.getD 0) clk 0 0), upd rows (d.getD 0) (some ⟨clk, t, (E.ty t).size, [l]⟩), clk + 1⟩) := rfl
def ymake (t : TI) (x y : PV) (K : TypeId → Nat → List PV → Int → Prop) : Prop :=
 match t, x, y with
 | .slice e n b z, .int _ x, .int _ y => stepA (0 ≤ x ∧ x ≤ y ∧ y.toNat ≤ room ∧ y.toNat * b ≤ room) (K e n z x)
 | _, _, _ => False
theorem pops_makeSlice {t : TypeId} {l c : Operand} : pops E ops (⟨d, .makeSlice t l c, ty, pos, af, none⟩ :: os) K ⟨f, rows, clk⟩ = ymake (E.ty t) (evf f l) (evf f c) fun e n z x => pops E ops os K ⟨put f d (.own (d.getD 0) clk 0 x.toNat), upd rows (d.getD 0) (some ⟨clk, e, n, List.replicate x.toNat z⟩), clk + 1⟩ := by
 simp only [pops, pfree, ymake, pnew]
 generalize E.ty t = T
 generalize evf f l = A
 generalize evf f c = B
 cases T with
 | slice e n b z =>
  cases A with
  | int k x =>
   cases B with
   | int k2 y => simp only [stepA, and_assoc]
   | _ => rfl
  | _ => rfl
 | _ => rfl
def yapp (t : TI) (rows : Rows) (x y : PV) (clk d : Nat) (K : PV → Rows → Nat → Prop) : Prop :=
 match t with
 | .slice e n b _ =>
  ∃ l, ysrc rows y l ∧ (∀ e ∈ l, e.length = n) ∧
  match x with
  | .nil => stepA (l.length ≤ room ∧ l.length * b ≤ room) (K (.own d clk 0 l.length) (upd rows d (some ⟨clk, e, n, l⟩)) (clk + 1))
  | .own id ver off len => ∃ r, rows id = some r ∧ r.ver = ver ∧ off = 0 ∧ len = r.els.length ∧ r.e = e ∧ r.size = n ∧ stepA (len + l.length ≤ room ∧ (len + l.length) * b ≤ room) (K (.own id clk 0 (len + l.length)) (upd rows id (some ⟨clk, e, n, r.els ++ l⟩)) (clk + 1))
  | .slx l0 => (∀ e ∈ l0, e.length = n) ∧ (∀ e ∈ l, ∀ p ∈ e, pers1 p = true) ∧ stepA (l0.length + l.length ≤ room ∧ (l0.length + l.length) * b ≤ room) (K (.sl (l0 ++ l)) rows clk)
  | _ => False
 | _ => False
theorem pops_append {t t2 : TypeId} {x y : Operand} : pops E ops (⟨d, .call { callee := .builtin .append, args := ⟨[x, y]⟩, argTypes := ⟨[t, t2]⟩ }, ty, pos, af, none⟩ :: os) K ⟨f, rows, clk⟩ =
  stepA (t2 = t ∨ slT (E.ty t2) = true) (yapp (E.ty t) rows (evf f x) (evf f y) clk (d.getD 0) fun v rows clk => pops E ops os K ⟨put f d v, rows, clk⟩) := by
 simp only [pops, pfree, pappend, yapp, pnew, stepA, PS.put]
 congr 1
 generalize E.ty t = T
 generalize evf f x = A
 cases T with
 | slice e n b z =>
  simp only
  congr 1
  funext l
  congr 2
  cases A with
  | nil => simp only [and_assoc]
  | own id ver off len => simp only [and_assoc]
  | slx l0 => simp only [and_assoc]
  | _ => rfl
 | _ => rfl
end
end Pm
namespace Pm
open Go Go.RowKit
def stepR (P : Program) (g : FuncId) (args : List PV) (K : PV → Prop) : Prop := ∃ v, Ret P g args v ∧ K v
@[congr] theorem stepR_congr {P : Program} {g : FuncId} {args args' : List PV} {K : PV → Prop} (h : args = args') : stepR P g args K = stepR P g args' K := by rw [h]
def ycallK (E : Env) (p : PV) (vals : List PV) (rows : Rows) (clk : Nat) (K : PV → Rows → Nat → Prop) : Prop :=
 match p with
 | .fn g caps => if E.writes g = true then caps = [] ∧ stepM E.P g vals rows clk K else stepA ((vals.map (pz rows)).all pers = true ∧ rowsPers rows (vals.flatMap idsV)) (stepR E.P g (vals.map (pz rows) ++ caps) fun v => K v (frR rows (vals.flatMap idsV)) clk)
 | _ => False
@[congr] theorem ycallK_congr {E : Env} {p p' : PV} {vals vals' : List PV} {rows rows' : Rows} {clk clk' : Nat} {K : PV → Rows → Nat → Prop} (h1 : p = p') (h2 : vals = vals') (h3 : rows = rows') (h4 : clk = clk') : ycallK E p vals rows clk K = ycallK E p' vals' rows' clk' K := by rw [h1, h2, h3, h4]
@[congr] theorem stepM_congr {P : Program} {g : FuncId} {vals vals' : List PV} {rows : Rows} {clk : Nat} {K : PV → Rows → Nat → Prop} (h : vals = vals') : stepM P g vals rows clk K = stepM P g vals' rows clk K := by rw [h]
@[congr] theorem ymake_congr {t t' : TI} {x x' y y' : PV} {K : TypeId → Nat → List PV → Int → Prop} (h1 : t = t') (h2 : x = x') (h3 : y = y') : ymake t x y K = ymake t' x' y' K := by rw [h1, h2, h3]
@[congr] theorem yapp_congr {t t' : TI} {rows rows' : Rows} {x x' y y' : PV} {clk clk' d d' : Nat} {K : PV → Rows → Nat → Prop} (h1 : t = t') (h2 : rows = rows') (h3 : x = x') (h4 : y = y') (h5 : clk = clk') (h6 : d = d') :
  yapp t rows x y clk d K = yapp t' rows' x' y' clk' d' K := by rw [h1, h2, h3, h4, h5, h6]
section
variable {E : Env} {ops os : List Oper} {K : PS → Prop} {f : Nat → PV} {rows : Rows} {clk : Nat} {d : Option Tmp} {ty : TypeId} {pos : String} {af : Array Edge}
theorem pops_call {fo : Operand} {args : Array Operand} {ts : Array TypeId} : pops E ops (⟨d, .call { callee := .value fo, args := args, argTypes := ts }, ty, pos, af, none⟩ :: os) K ⟨f, rows, clk⟩ =
  ycallK E (evf f fo) (args.toList.map (evf f)) rows clk fun v rows clk => pops E ops os K ⟨put f d v, rows, clk⟩ := by
 simp only [pops, pfree, ycall, ycallK, ycallM, stepA, stepR]
 generalize evf f fo = A
 have e1 : (args.toList.map fun x => pz rows (evf f x)) = (args.toList.map (evf f)).map (pz rows) := by rw [List.map_map]; rfl
 have e2 : (args.toList.flatMap fun x => idsV (evf f x)) = (args.toList.map (evf f)).flatMap idsV := by rw [List.flatMap_map]
 rw [e1, e2]
 cases A with
 | fn g caps =>
  have hm : mutP E (.fn g caps) = E.writes g := rfl
  by_cases hw : E.writes g = true
  ·rw [hm, if_pos hw]
   cases caps with
   | nil => simp [hw]
   | cons x l => simp [hw]
  rw [hm, if_neg hw]
  simp only [if_neg hw]
  apply propext
  constructor
  ·rintro ⟨v, ⟨h1, h2⟩, h3, h4⟩; exact ⟨⟨h1, h3⟩, v, h2, h4⟩
  ·rintro ⟨⟨h1, h3⟩, v, h2, h4⟩; exact ⟨v, ⟨h1, h2⟩, h3, h4⟩
 | _ => simp [mutP]
theorem pops_makeFunc {g : FuncId} {caps : Array Operand} : pops E ops (⟨d, .makeFunc (.func g) ⟨[]⟩ caps, ty, pos, af, none⟩ :: os) K ⟨f, rows, clk⟩ =
  stepA (((caps.toList.map (evf f)).map (pz rows)).all pers = true ∧ rowsPers rows ((caps.toList.map (evf f)).flatMap idsV))
   (pops E ops os K ⟨put f d (.fn g ((caps.toList.map (evf f)).map (pz rows))), frR rows ((caps.toList.map (evf f)).flatMap idsV), clk⟩) := by
 simp only [pops, pfree, stepA, and_assoc]
 have e1 : (caps.toList.map fun x => pz rows (evf f x)) = (caps.toList.map (evf f)).map (pz rows) := by rw [List.map_map]; rfl
 have e2 : (caps.toList.flatMap fun x => idsV (evf f x)) = (caps.toList.map (evf f)).flatMap idsV := by rw [List.flatMap_map]
 rw [e1, e2]
def tadd (k : Nat) (l : List Nat) (t : Nat → Nat → Prop) : Nat → Nat → Prop := fun k' id => (true = true ∧ k' = k ∧ id ∈ l) ∨ t k' id
def wadd (k id : Nat) (w : Nat → Nat → Prop) : Nat → Nat → Prop := fun k' id' => (k' = k ∧ id' = id) ∨ w k' id'
variable {k : Nat} {tch : Nat → Nat → Prop} {pend : Nat → Nat → Prop}
theorem pstr_guard {op : Op} {j : Nat} {want : Bool} : pstr E ops clk k (⟨d, op, ty, pos, af, some (j, want)⟩ :: os) K ⟨f, rows, tch, pend⟩ =
  match (ops[j]?).bind (·.dst) with
  | none => False
  | some e => stepG (f e) want (pstr E ops clk k (⟨d, op, ty, pos, af, none⟩ :: os) K ⟨f, rows, tch, pend⟩) (pstr E ops clk (k + 1) os K ⟨put f d (.tup []), rows, tch, pend⟩) := by
 have e3 : app k ⟨d, op, ty, pos, af, some (j, want)⟩ false (.tup []) none ⟨f, rows, tch, pend⟩ = ⟨put f d (.tup []), rows, tch, pend⟩ := by simp [app, applyU, wlU]
 simp only [pstr, e3]
 cases hx : (ops[j]?).bind (·.dst) with
 | none => rfl
 | some e => rfl
theorem pstr_dflt {o : Oper} {R : PV → Prop} {kk : PV → Prop} {st : ST} (h : ∀ v, R v ↔ kk v) : (∃ v u, (R v ∧ u = none) ∧ okU .any ops k u tch ∧ pstr E ops clk (k + 1) os K (app k o true v u st)) = stepV kk fun v => pstr E ops clk (k + 1) os K (app k o true v none st) := by
 apply propext; simp only [stepV]
 constructor
 ·rintro ⟨v, u, ⟨h1, rfl⟩, _, h2⟩; exact ⟨v, (h v).1 h1, h2⟩
 ·rintro ⟨v, h1, h2⟩; exact ⟨v, none, ⟨(h v).2 h1, rfl⟩, trivial, h2⟩
theorem app_pure {op : Op} {v : PV} (h : fpOp op (evf f) = []) : app k ⟨d, op, ty, pos, af, none⟩ true v none ⟨f, rows, tch, pend⟩ = ⟨put f d v, rows, tch, pend⟩ := by simp [app, applyU, wlU, h]
theorem app_tch {op : Op} {v : PV} {l : List Nat} (h : fpOp op (evf f) = l) : app k ⟨d, op, ty, pos, af, none⟩ true v none ⟨f, rows, tch, pend⟩ = ⟨put f d v, rows, tadd k l tch, pend⟩ := by subst h; rfl
theorem pstr_move {x : Operand} : pstr E ops clk k (⟨d, .move x, ty, pos, af, none⟩ :: os) K ⟨f, rows, tch, pend⟩ = pstr E ops clk (k + 1) os K ⟨put f d (evf f x), rows, tch, pend⟩ := by
 simp only [pstr, yn, clkN, ys, yv]
 rw [pstr_dflt (kk := fun v => v = evf f x) (fun v => Iff.rfl), stepV_eq, app_pure rfl]
theorem pstr_assign {x : Operand} : pstr E ops clk k (⟨d, .assign x, ty, pos, af, none⟩ :: os) K ⟨f, rows, tch, pend⟩ = pstr E ops clk (k + 1) os K ⟨put f d (evf f x), rows, tch, pend⟩ := by
 simp only [pstr, yn, clkN, ys, yv]
 rw [pstr_dflt (kk := fun v => v = evf f x) (fun v => Iff.rfl), stepV_eq, app_pure rfl]
theorem pstr_pick {c a b : Operand} : pstr E ops clk k (⟨d, .pick c a b, ty, pos, af, none⟩ :: os) K ⟨f, rows, tch, pend⟩ = stepB (evf f c) true (pstr E ops clk (k + 1) os K ⟨put f d (evf f a), rows, tch, pend⟩) (pstr E ops clk (k + 1) os K ⟨put f d (evf f b), rows, tch, pend⟩) := by
 simp only [pstr, yn, clkN, ys, yv]
 rw [pstr_dflt (fun v => Iff.rfl)]
 apply propext; simp only [stepV, stepB, app_pure (op := .pick c a b) rfl]
 constructor
 ·rintro ⟨v, ⟨t, h1, rfl⟩, h2⟩
  refine ⟨t, h1, fun h => ?_, fun h => ?_⟩
  ·subst h; exact h2
  ·subst h; exact h2
 ·rintro ⟨t, h1, h2, h3⟩
  cases t with
  | true => exact ⟨_, ⟨true, h1, rfl⟩, h2 rfl⟩
  | false => exact ⟨_, ⟨false, h1, rfl⟩, h3 rfl⟩
theorem pstr_bin {op : BinOp} {t t2 : TypeId} {x y : Operand} : pstr E ops clk k (⟨d, .binOp op t x y t2, ty, pos, af, none⟩ :: os) K ⟨f, rows, tch, pend⟩ = stepV (fun v => ybin E op t (evf f x) (evf f y) v) fun v => pstr E ops clk (k + 1) os K ⟨put f d v, rows, tch, pend⟩ := by
 simp only [pstr, yn, clkN, ys, yv]; rw [pstr_dflt (fun v => Iff.rfl)]; simp only [app_pure (op := .binOp op t x y t2) rfl]
theorem pstr_un {op : UnOp} {t : TypeId} {x : Operand} : pstr E ops clk k (⟨d, .unOp op t x, ty, pos, af, none⟩ :: os) K ⟨f, rows, tch, pend⟩ = stepV (fun v => yun op (evf f x) v) fun v => pstr E ops clk (k + 1) os K ⟨put f d v, rows, tch, pend⟩ := by
 simp only [pstr, yn, clkN, ys, yv]; rw [pstr_dflt (fun v => Iff.rfl)]; simp only [app_pure (op := .unOp op t x) rfl]
theorem pstr_conv {s t : TypeId} {x : Operand} : pstr E ops clk k (⟨d, .convert s t x, ty, pos, af, none⟩ :: os) K ⟨f, rows, tch, pend⟩ = stepV (fun v => yconv (E.ty s) (E.ty t) (evf f x) v) fun v => pstr E ops clk (k + 1) os K ⟨put f d v, rows, tch, pend⟩ := by
 simp only [pstr, yn, clkN, ys, yv]; rw [pstr_dflt (fun v => Iff.rfl)]; simp only [app_pure (op := .convert s t x) rfl]
theorem pstr_extract {i : Nat} {x : Operand} : pstr E ops clk k (⟨d, .extract x i, ty, pos, af, none⟩ :: os) K ⟨f, rows, tch, pend⟩ = stepV (fun v => yext i (evf f x) v) fun v => pstr E ops clk (k + 1) os K ⟨put f d v, rows, tch, pend⟩ := by
 simp only [pstr, yn, clkN, ys, yv]; rw [pstr_dflt (fun v => Iff.rfl)]; simp only [app_pure (op := .extract x i) rfl]
theorem pstr_load {t : TypeId} {x : Operand} : pstr E ops clk k (⟨d, .load t x, ty, pos, af, none⟩ :: os) K ⟨f, rows, tch, pend⟩ = stepV (fun v => yload E t (vrow .any ops k pend rows) (evf f x) v) fun v => pstr E ops clk (k + 1) os K ⟨put f d v, rows, tadd k (ids1 (evf f x)) tch, pend⟩ := by
 simp only [pstr, yn, clkN, ys, yv]; rw [pstr_dflt (fun v => Iff.rfl)]; simp only [app_tch (op := .load t x) rfl]; rfl
theorem pstr_field {t : TypeId} {i : Nat} {x : Operand} : pstr E ops clk k (⟨d, .field t x i, ty, pos, af, none⟩ :: os) K ⟨f, rows, tch, pend⟩ = stepV (fun v => yfield E t i (evf f x) v) fun v => pstr E ops clk (k + 1) os K ⟨put f d v, rows, tch, pend⟩ := by
 simp only [pstr, yn, clkN, ys, yv]; rw [pstr_dflt (fun v => Iff.rfl)]; simp only [app_pure (op := .field t x i) rfl]
theorem pstr_fieldAddr {t : TypeId} {i : Nat} {x : Operand} : pstr E ops clk k (⟨d, .fieldAddr t x i, ty, pos, af, none⟩ :: os) K ⟨f, rows, tch, pend⟩ = stepV (fun v => yfieldAddr E t (vrow .any ops k pend rows) i (evf f x) v) fun v => pstr E ops clk (k + 1) os K ⟨put f d v, rows, tadd k (ids1 (evf f x)) tch, pend⟩ := by
 simp only [pstr, yn, clkN, ys, yv]; rw [pstr_dflt (fun v => Iff.rfl)]; simp only [app_tch (op := .fieldAddr t x i) rfl]; rfl
theorem pstr_indexAddr {t : TypeId} {x y : Operand} : pstr E ops clk k (⟨d, .indexAddr t x y, ty, pos, af, none⟩ :: os) K ⟨f, rows, tch, pend⟩ = stepV (fun v => yindexAddr E t (vrow .any ops k pend rows) (evf f x) (evf f y) v) fun v => pstr E ops clk (k + 1) os K ⟨put f d v, rows, tadd k (ids1 (evf f x)) tch, pend⟩ := by
 simp only [pstr, yn, clkN, ys, yv]; rw [pstr_dflt (fun v => Iff.rfl)]; simp only [app_tch (op := .indexAddr t x y) rfl]; rfl
theorem pstr_slice {t : TypeId} {x : Operand} {lo hi mx : Option Operand} : pstr E ops clk k (⟨d, .slice t x lo hi mx, ty, pos, af, none⟩ :: os) K ⟨f, rows, tch, pend⟩ = stepV (fun v => yslice E t (vrow .any ops k pend rows) (evf f x) (lo.map (evf f)) (hi.map (evf f)) (mx.map (evf f)) v) fun v => pstr E ops clk (k + 1) os K ⟨put f d v, rows, tadd k (ids1 (evf f x)) tch, pend⟩ := by
 simp only [pstr, yn, clkN, ys, yv]; rw [pstr_dflt (fun v => Iff.rfl)]; simp only [app_tch (op := .slice t x lo hi mx) rfl]; rfl
theorem pstr_build {t : TypeId} {parts : Array (Nat × Operand)} : pstr E ops clk k (⟨d, .build t parts, ty, pos, af, none⟩ :: os) K ⟨f, rows, tch, pend⟩ = stepV (fun v => ybuild (E.ty t) (parts.toList.map fun x => (x.1, evf f x.2)) v) fun v => pstr E ops clk (k + 1) os K ⟨put f d v, rows, tch, pend⟩ := by
 simp only [pstr, yn, clkN, ys, yv]; rw [pstr_dflt (fun v => Iff.rfl)]; simp only [app_pure (op := .build t parts) rfl]
theorem pstr_len {t : TypeId} {x : Operand} : pstr E ops clk k (⟨d, .call { callee := .builtin .len, args := ⟨[x]⟩, argTypes := ⟨[t]⟩ }, ty, pos, af, none⟩ :: os) K ⟨f, rows, tch, pend⟩ = stepV (fun v => ylenV (E.ty t) (vrow .any ops k pend rows) (evf f x) v) fun v => pstr E ops clk (k + 1) os K ⟨put f d v, rows, tadd k (ids1 (evf f x)) tch, pend⟩ := by
 simp only [pstr, yn, clkN, ys, yv]; rw [pstr_dflt (fun v => Iff.rfl)]; simp only [app_tch (op := .call { callee := .builtin .len, args := ⟨[x]⟩, argTypes := ⟨[t]⟩ }) rfl]; rfl
theorem pstr_nilCheck {x : Operand} : pstr E ops clk k (⟨d, .nilCheck x, ty, pos, af, none⟩ :: os) K ⟨f, rows, tch, pend⟩ = stepV (fun v => ynil (vrow .any ops k pend rows) (evf f x) v) fun v => pstr E ops clk (k + 1) os K ⟨put f d v, rows, tadd k (ids1 (evf f x)) tch, pend⟩ := by
 simp only [pstr, yn, clkN, ys, yv]; rw [pstr_dflt (fun v => Iff.rfl)]; simp only [app_tch (op := .nilCheck x) rfl]; rfl
theorem pstr_max {ts : Array TypeId} {x y : Operand} : pstr E ops clk k (⟨d, .call { callee := .builtin .max, args := ⟨[x, y]⟩, argTypes := ts }, ty, pos, af, none⟩ :: os) K ⟨f, rows, tch, pend⟩ = stepV (fun v => ymax (evf f x) (evf f y) v) fun v => pstr E ops clk (k + 1) os K ⟨put f d v, rows, tch, pend⟩ := by
 simp only [pstr, yn, clkN, ys, yv]; rw [pstr_dflt (fun v => Iff.rfl)]; simp only [app_pure (op := .call { callee := .builtin .max, args := ⟨[x, y]⟩, argTypes := ts }) rfl]
theorem pstr_min {ts : Array TypeId} {x y : Operand} : pstr E ops clk k (⟨d, .call { callee := .builtin .min, args := ⟨[x, y]⟩, argTypes := ts }, ty, pos, af, none⟩ :: os) K ⟨f, rows, tch, pend⟩ = stepV (fun v => ymin (evf f x) (evf f y) v) fun v => pstr E ops clk (k + 1) os K ⟨put f d v, rows, tch, pend⟩ := by
 simp only [pstr, yn, clkN, ys, yv]; rw [pstr_dflt (fun v => Iff.rfl)]; simp only [app_pure (op := .call { callee := .builtin .min, args := ⟨[x, y]⟩, argTypes := ts }) rfl]
theorem pstr_makeFunc {g : FuncId} {caps : Array Operand} : pstr E ops clk k (⟨d, .makeFunc (.func g) ⟨[]⟩ caps, ty, pos, af, none⟩ :: os) K ⟨f, rows, tch, pend⟩ = stepA ((caps.toList.map fun x => evf f x).all pers = true) (pstr E ops clk (k + 1) os K ⟨put f d (.fn g (caps.toList.map fun x => evf f x)), rows, tch, pend⟩) := by
 simp only [pstr, yn, clkN, ys, yv]
 rw [pstr_dflt (fun v => Iff.rfl), stepV_and, stepV_eq]; simp only [app_pure (op := .makeFunc (.func g) ⟨[]⟩ caps) rfl]
theorem pstr_buildSlice {t : TypeId} {len : Nat} {parts : Array (Nat × Operand)} : pstr E ops clk k (⟨d, .buildSlice t len parts, ty, pos, af, none⟩ :: os) K ⟨f, rows, tch, pend⟩ = stepV (fun v => ylit (E.ty t) (vrow .any ops k pend rows) len (parts.toList.map fun x => (x.1, evf f x.2)) v) fun v => pstr E ops clk (k + 1) os K ⟨put f d v, rows, tch, pend⟩ := by
 simp only [pstr, yn, clkN, ys]; rw [pstr_dflt (fun v => Iff.rfl)]; simp only [app_pure (op := .buildSlice t len parts) rfl]
theorem pstr_store {t : TypeId} {p x : Operand} : pstr E ops clk k (⟨none, .store t p x, ty, pos, af, none⟩ :: os) K ⟨f, rows, tch, pend⟩ =
  ∃ id r, ystore E t (vrow .any ops k pend rows) (evf f p) (evf f x) .undef (some (id, r)) ∧ okT .any ops k id tch ∧ pstr E ops clk (k + 1) os K ⟨f, upd rows id (some r), tadd k (ids1 (evf f p) ++ ((cellsS (evf f x)).getD []).flatMap ids1) tch, wadd k id pend⟩ := by
 simp only [pstr, yn, clkN, ys]
 apply propext
 constructor
 ·rintro ⟨v, u, h, h1, h2⟩
  have h' := h
  obtain ⟨_, rfl, h3⟩ := h
  split at h3
  ·obtain ⟨_, _, _, _, _, _, _, _, _, _, rfl⟩ := h3
   exact ⟨_, _, h', h1, h2⟩
  ·exact h3.elim
 ·rintro ⟨id, r, h, h1, h2⟩; exact ⟨.undef, some (id, r), h, h1, h2⟩
theorem pstr_new {o : Oper} {R : PV → Option (Nat × Row) → Prop} {C : Prop} {v0 : PV} {e : Nat} {r0 : Row} {st : ST} {clk' : Nat} (h : ∀ v u, R v u ↔ (C ∧ v = v0 ∧ u = some (e, r0))) : (∃ v u, R v u ∧ okU .any ops k u tch ∧ pstr E ops clk' (k + 1) os K (app k o true v u st)) = stepA (C ∧ okT .any ops k e tch) (pstr E ops clk' (k + 1) os K (app k o true v0 (some (e, r0)) st)) := by
 apply propext; simp only [stepA]
 constructor
 ·rintro ⟨v, u, h1, h2, h3⟩
  obtain ⟨hc, rfl, rfl⟩ := (h v u).1 h1
  exact ⟨⟨hc, h2⟩, h3⟩
 ·rintro ⟨⟨h1, h2⟩, h3⟩; exact ⟨v0, _, (h _ _).2 ⟨h1, rfl, rfl⟩, h2, h3⟩
theorem app_new {op : Op} {v : PV} {e : Nat} {r0 : Row} (h : fpOp op (evf f) = []) : app k ⟨d, op, ty, pos, af, none⟩ true v (some (e, r0)) ⟨f, rows, tch, pend⟩ = ⟨put f d v, upd rows e (some r0), tch, wadd k e pend⟩ := by simp only [app, applyU, wlU, h, List.not_mem_nil, and_false, false_or]; rfl
theorem pstr_alloc {t : TypeId} : pstr E ops clk k (⟨d, .alloc t, ty, pos, af, none⟩ :: os) K ⟨f, rows, tch, pend⟩ = stepA ((E.ty t).known = true ∧ okT .any ops k (d.getD 0) tch) (pstr E ops (clk + 1) (k + 1) os K ⟨put f d (.ptr (d.getD 0) clk 0 0), upd rows (d.getD 0) (some ⟨clk, t, (E.ty t).size, [(E.ty t).zero]⟩), tch, wadd k (d.getD 0) pend⟩) := by
 simp only [pstr, yn, clkN]
 rw [pstr_new (C := (E.ty t).known = true) (v0 := .ptr (d.getD 0) clk 0 0) (e := d.getD 0) (r0 := ⟨clk, t, (E.ty t).size, [(E.ty t).zero]⟩) (fun v u => by simp), app_new (op := .alloc t) rfl]
theorem pstr_box {t : TypeId} {x : Operand} : pstr E ops clk k (⟨d, .box t x, ty, pos, af, none⟩ :: os) K ⟨f, rows, tch, pend⟩ = stepA ((E.ty t).known = true) (∃ l, cellsS (evf f x) = some l ∧ ((∀ q ∈ l, one1 (fun _ => none) q) ∧ l.length = (E.ty t).size ∧ okT .any ops k (d.getD 0) tch) ∧
  pstr E ops (clk + 1) (k + 1) os K ⟨put f d (.ptr (d.getD 0) clk 0 0), upd rows (d.getD 0) (some ⟨clk, t, (E.ty t).size, [l]⟩), tch, wadd k (d.getD 0) pend⟩) := by
 simp only [pstr, yn, clkN]
 apply propext
 constructor
 ·rintro ⟨v, u, ⟨h1, l, h2, h3, h4, rfl, rfl⟩, h5, h6⟩
  rw [app_new (op := .box t x) rfl] at h6
  exact ⟨h1, l, h2, ⟨h3, h4, h5⟩, h6⟩
 ·rintro ⟨h1, l, h2, ⟨h3, h4, h5⟩, h6⟩
  refine ⟨_, _, ⟨h1, l, h2, h3, h4, rfl, rfl⟩, h5, ?_⟩
  rw [app_new (op := .box t x) rfl]; exact h6
theorem pstr_makeSlice {t : TypeId} {l c : Operand} : pstr E ops clk k (⟨d, .makeSlice t l c, ty, pos, af, none⟩ :: os) K ⟨f, rows, tch, pend⟩ = ymake (E.ty t) (evf f l) (evf f c) fun e n z x => stepA (okT .any ops k (d.getD 0) tch) (pstr E ops (clk + 1) (k + 1) os K ⟨put f d (.own (d.getD 0) clk 0 x.toNat), upd rows (d.getD 0) (some ⟨clk, e, n, List.replicate x.toNat z⟩), tch, wadd k (d.getD 0) pend⟩) := by
 have hap : ∀ {v e' r0}, app k ⟨d, .makeSlice t l c, ty, pos, af, none⟩ true v (some (e', r0)) ⟨f, rows, tch, pend⟩ = ⟨put f d v, upd rows e' (some r0), tch, wadd k e' pend⟩ := app_new rfl
 simp only [pstr, yn, clkN, ymake]
 generalize E.ty t = T
 generalize evf f l = A
 generalize evf f c = B
 cases T with
 | slice e n b z =>
  cases A with
  | int k1 x =>
   cases B with
   | int k2 y =>
    apply propext
    simp only [stepA]
    constructor
    ·rintro ⟨v, u, ⟨h1, h2, h3, h4, rfl, rfl⟩, h5, h6⟩
     rw [hap] at h6
     exact ⟨⟨h1, h2, h3, h4⟩, h5, h6⟩
    ·rintro ⟨⟨h1, h2, h3, h4⟩, h5, h6⟩
     refine ⟨_, _, ⟨h1, h2, h3, h4, rfl, rfl⟩, h5, ?_⟩
     rw [hap]; exact h6
   | _ => simp
  | _ => simp
 | _ => simp
theorem pstr_append {t t2 : TypeId} {x y : Operand} : pstr E ops clk k (⟨d, .call { callee := .builtin .append, args := ⟨[x, y]⟩, argTypes := ⟨[t, t2]⟩ }, ty, pos, af, none⟩ :: os) K ⟨f, rows, tch, pend⟩ =
  stepA (t2 = t ∨ slT (E.ty t2) = true) (∃ v id r, yappN (E.ty t) (vrow .any ops k pend rows) (evf f x) (evf f y) clk (d.getD 0) v (some (id, r)) ∧ okT .any ops k id tch ∧
   pstr E ops (clk + 1) (k + 1) os K ⟨put f d v, upd rows id (some r), tadd k (ids1 (evf f x) ++ ids1 (evf f y)) tch, wadd k id pend⟩) := by
 have hap : ∀ {v e' r0}, app k ⟨d, .call { callee := .builtin .append, args := ⟨[x, y]⟩, argTypes := ⟨[t, t2]⟩ }, ty, pos, af, none⟩ true v (some (e', r0)) ⟨f, rows, tch, pend⟩ = ⟨put f d v, upd rows e' (some r0), tadd k (ids1 (evf f x) ++ ids1 (evf f y)) tch, wadd k e' pend⟩ := rfl
 simp only [pstr, yn, clkN, stepA]
 apply propext
 constructor
 ·rintro ⟨v, u, ⟨h1, h2⟩, h3, h4⟩
  refine ⟨h1, ?_⟩
  have h2' := h2
  unfold yappN at h2'
  split at h2'
  ·obtain ⟨l, g1, g2, g3⟩ := h2'
   split at g3
   ·obtain ⟨_, _, rfl, rfl⟩ := g3
    exact ⟨_, _, _, h2, h3, h4⟩
   ·obtain ⟨r, _, _, _, _, _, _, _, _, rfl, rfl⟩ := g3
    exact ⟨_, _, _, h2, h3, h4⟩
   ·exact g3.elim
  ·exact h2'.elim
 ·rintro ⟨h1, v, id, r, h2, h3, h4⟩
  exact ⟨v, _, ⟨h1, h2⟩, h3, h4⟩
def ycallS (E : Env) (p : PV) (vals : List PV) (rows : Rows) (K : PV → Prop) : Prop :=
 match p with
 | .fn g caps => stepA ((vals.map (pz rows)).all pers = true ∧ vals.flatMap idsV = []) (stepR E.P g (vals.map (pz rows) ++ caps) K)
 | _ => False
@[congr] theorem ycallS_congr {E : Env} {p p' : PV} {vals vals' : List PV} {rows rows' : Rows} {K : PV → Prop} (h1 : p = p') (h2 : vals = vals') (h3 : rows = rows') : ycallS E p vals rows K = ycallS E p' vals' rows' K := by rw [h1, h2, h3]
theorem pstr_call {fo : Operand} {args : Array Operand} {ts : Array TypeId} : pstr E ops clk k (⟨d, .call { callee := .value fo, args := args, argTypes := ts }, ty, pos, af, none⟩ :: os) K ⟨f, rows, tch, pend⟩ =
  ycallS E (evf f fo) (args.toList.map (evf f)) (vrow .any ops k pend rows) fun v => pstr E ops clk (k + 1) os K ⟨put f d v, rows, tch, pend⟩ := by
 simp only [pstr, yn, clkN, ys, ycall, ycallS, stepA, stepR]
 generalize hA : evf f fo = A
 have e1 : (args.toList.map fun x => pz (vrow .any ops k pend rows) (evf f x)) = (args.toList.map (evf f)).map (pz (vrow .any ops k pend rows)) := by rw [List.map_map]; rfl
 have e2 : (args.toList.flatMap fun x => idsV (evf f x)) = (args.toList.map (evf f)).flatMap idsV := by rw [List.flatMap_map]
 rw [e1, e2]
 have e3 : ∀ v, app k ⟨d, .call { callee := .value fo, args := args, argTypes := ts }, ty, pos, af, none⟩ true v none ⟨f, rows, tch, pend⟩ = ⟨put f d v, rows, tch, pend⟩ := fun v => app_pure rfl
 cases A with
 | fn g caps =>
  apply propext
  constructor
  ·rintro ⟨v, u, ⟨rfl, ⟨h1, h2⟩, h3⟩, _, h4⟩; rw [e3] at h4; exact ⟨⟨h1, h3⟩, v, h2, h4⟩
  ·rintro ⟨⟨h1, h3⟩, v, h2, h4⟩; exact ⟨v, none, ⟨rfl, ⟨h1, h2⟩, h3⟩, trivial, by rw [e3]; exact h4⟩
 | _ => simp
@[simp] theorem vrow_nil {md : Region.Mode} {ops : List Oper} {j : Nat} {rows : Rows} : vrow md ops j (fun _ _ => False) rows = rows := by
 funext id; simp [vrow]
@[simp] theorem vrow_add {md : Region.Mode} {ops : List Oper} {j k id : Nat} {w : Nat → Nat → Prop} {rows : Rows} : vrow md ops j (wadd k id w) rows = if depL md ops j k = true then vrow md ops j w rows else upd (vrow md ops j w rows) id none := by
 funext x
 unfold vrow wadd
 by_cases hd : depL md ops j k = true
 ·rw [if_pos hd]
  have : (∃ k', ((k' = k ∧ x = id) ∨ w k' x) ∧ depL md ops j k' = false) ↔ ∃ k', w k' x ∧ depL md ops j k' = false := by
   constructor
   ·rintro ⟨k', ⟨rfl, _⟩ | h, h2⟩
    ·rw [hd] at h2; cases h2
    ·exact ⟨k', h, h2⟩
   ·rintro ⟨k', h, h2⟩; exact ⟨k', .inr h, h2⟩
  exact (by classical exact ite_congr (propext this) (fun _ => rfl) (fun _ => rfl))
 ·rw [if_neg hd]
  have hd' : depL md ops j k = false := by simpa using hd
  simp only [upd]
  by_cases hx : x = id
  ·rw [if_pos hx, if_pos ⟨k, .inl ⟨rfl, hx⟩, hd'⟩]
  ·rw [if_neg hx]
   have : (∃ k', ((k' = k ∧ x = id) ∨ w k' x) ∧ depL md ops j k' = false) ↔ ∃ k', w k' x ∧ depL md ops j k' = false := by
    constructor
    ·rintro ⟨k', ⟨_, h⟩ | h, h2⟩
     ·exact absurd h hx
     ·exact ⟨k', h, h2⟩
    ·rintro ⟨k', h, h2⟩; exact ⟨k', .inr h, h2⟩
   exact (by classical exact ite_congr (propext this) (fun _ => rfl) (fun _ => rfl))
@[simp] theorem okT_nil {md : Region.Mode} {ops : List Oper} {i id : Nat} : okT md ops i id (fun _ _ => False) = True := by simp [okT]
@[simp] theorem okT_add {md : Region.Mode} {ops : List Oper} {i id k : Nat} {l : List Nat} {t : Nat → Nat → Prop} : okT md ops i id (tadd k l t) = ((id ∈ l → depL md ops i k = true) ∧ okT md ops i id t) := by
 apply propext
 unfold okT tadd
 constructor
 ·intro h; exact ⟨fun hi => h k (.inl ⟨rfl, rfl, hi⟩), fun k' hk => h k' (.inr hk)⟩
 ·rintro ⟨h1, h2⟩ k' (⟨_, rfl, h⟩ | h)
  ·exact h1 h
  ·exact h2 k' h
end
end Pm
