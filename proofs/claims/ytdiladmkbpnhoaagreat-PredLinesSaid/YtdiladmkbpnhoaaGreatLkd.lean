import Derived.Test.YtdiladmkbpnhoaaGreatMd
import Derived.Test.YtdiladmkbpnhoaaGreatMq
import Derived.Test.YtdiladmkbpnhoaaGreatLfw
import Derived.Test.YtdiladmkbpnhoaaGreatLfp
import Derived.Test.YtdiladmkbpnhoaaGreatLgc
set_option linter.unusedSimpArgs false
set_option linter.unusedVariables false
set_option linter.unusedSimpArgs false
set_option linter.unusedVariables false
namespace Pm
open Go
def lexLater (md : Region.Mode) (ops : Array Oper) (k : Nat) (o : Oper) : List Oper → Bool
 | [] => true
 | p :: l => (p.after.any (fun e => Region.binds md e && e.on == k) || o.apart ops p) && lexLater md ops k o l
def lexF (md : Region.Mode) (ops : Array Oper) : Nat → List Oper → Bool
 | _, [] => true
 | k, o :: l => (o.after.all fun e => !Region.binds md e || Nat.blt e.on k) && lexLater md ops k o l && lexF md ops (k + 1) l
theorem lexLater_spec {md : Region.Mode} {ops : Array Oper} {k : Nat} {o : Oper} : ∀ {l : List Oper}, lexLater md ops k o l = true → ∀ p ∈ l, (p.after.any (fun e => Region.binds md e && e.on == k) || o.apart ops p) = true
 | [], _, p, hp => by cases hp
 | q :: l, h, p, hp => by
  simp only [lexLater, Bool.and_eq_true] at h
  rcases List.mem_cons.1 hp with rfl | hp
  ·exact h.1
  ·exact lexLater_spec h.2 p hp
theorem lexF_head {md : Region.Mode} {ops : Array Oper} : ∀ (l : List Oper) (k : Nat) (listed : Array Bool), (∀ j, l[j]? = ops[k + j]?) → k + l.length = ops.size → listed.size = ops.size →
  (∀ j, j < ops.size → listed.getD j true = decide (j < k)) → lexF md ops k l = true → Region.lexHead md ops 0 l.length k listed = true
 | [], k, listed, hl, hk, hs, hL, h => by
  simp only [List.length_nil, Region.lexHead, Region.seqB]
  rw [List.isEmpty_iff]
  refine List.eq_nil_iff_forall_not_mem.2 fun j hj => ?_
  obtain ⟨h1, o, ho, _⟩ := mem_ready.1 hj
  have hlt : j < ops.size := (Array.getElem?_eq_some_iff.1 ho).1
  rw [hL j hlt] at h1
  simp only [List.length_nil] at hk
  simp only [decide_eq_false_iff_not] at h1
  omega
 | o :: l, k, listed, hl, hk, hs, hL, h => by
  simp only [List.length_cons] at hk
  have h0 : ops[k]? = some o := by simpa using (hl 0).symm
  simp only [lexF, Bool.and_eq_true] at h
  obtain ⟨⟨h1, h2⟩, h3⟩ := h
  simp only [List.length_cons, Region.lexHead, Bool.and_eq_true]
  refine ⟨⟨?_, ?_⟩, ?_⟩
  ·have : k ∈ Region.ready md ops listed := mem_ready.2 ⟨by rw [hL k (by omega)]; simp, o, h0, fun e he hb => by
    have h4 := Array.all_eq_true_iff_forall_mem.1 h1 e he
    simp only [hb, Bool.not_true, Bool.false_or] at h4
    have h5 : e.on < k := by simpa [Nat.blt_eq] using h4
    have h6 := hL e.on (by omega)
    rw [decide_eq_true h5] at h6
    have h7 : e.on < listed.size := by omega
    simpa [h7] using h6⟩
   simpa using this
  ·unfold Region.free
   rw [h0]
   simp only
   rw [List.all_eq_true]
   intro j hj
   rw [List.mem_range] at hj
   rcases Nat.lt_trichotomy j k with h4 | h4 | h4
   ·rw [hL j hj, decide_eq_true h4]; simp
   ·subst h4; simp
   ·obtain ⟨i, rfl⟩ : ∃ i, j = k + (i + 1) := ⟨j - k - 1, by omega⟩
    have h5 := hl (i + 1)
    simp only [List.getElem?_cons_succ] at h5
    cases h6 : ops[k + (i + 1)]? with
    | none => simp
    | some oj =>
     rw [h6] at h5
     have := lexLater_spec h2 oj (List.mem_of_getElem? h5)
     simp only [this, Bool.or_true]
  ·refine lexF_head l (k + 1) _ (fun j => by have := hl (j + 1); simpa [Nat.add_assoc, Nat.add_comm 1 j] using this) (by omega) (by simpa using hs) (fun j hj => ?_) h3
   by_cases hjk : k = j
   ·subst hjk
    have : k < listed.size := by omega
    simp [this]
   ·rw [getD_set_ne true hjk, hL j hj]
    rw [decide_eq_decide]; omega
def regF (n tl : Nat) (ops : Array Oper) (draw : Bool) : Bool :=
 (ops.all fun o => match o.dst with | some d => decide (d < n) | none => true) &&
 (!draw || (newDst (if tl = 0 then ops.toList else ops.toList.take (ops.size - tl)) && (if tl = 0 then Region.noSelect ops && lexF .any ops 0 ops.toList else decide (tl ≤ ops.size) && Region.lexTailB .any ops (ops.size - tl))))
theorem regF_ok {n tl : Nat} {ops : Array Oper} {draw : Bool} (h : regF n tl ops draw = true) : regOK n tl ops draw = true := by
 unfold regF at h
 unfold regOK
 simp only [Bool.and_eq_true, Bool.or_eq_true] at h ⊢
 refine ⟨h.1, h.2.imp id fun h2 => ⟨h2.1, ?_⟩⟩
 have h3 := h2.2
 by_cases ht : tl = 0
 ·rw [if_pos ht] at h3 ⊢
  simp only [Bool.and_eq_true] at h3 ⊢
  refine ⟨h3.1, ?_⟩
  have := lexF_head (md := .any) (ops := ops) ops.toList 0 (Array.replicate ops.size false) (fun j => by simp) (by simp) (by simp) (fun j hj => by simp [hj]) h3.2
  simpa using this
 ·rw [if_neg ht] at h3 ⊢; exact h3
def codeF (n : Nat) (tl : Nat → Nat) : Code → Bool
 | .region id ops draw => regF n (tl id) ops draw
 | .seq a b => codeF n tl a && codeF n tl b
 | .cond _ t e => codeF n tl t && codeF n tl e
 | .block _ c => codeF n tl c
 | .loop c => codeF n tl c
 | c => codeOK n tl c
theorem codeF_ok {n : Nat} {tl : Nat → Nat} (c : Code) : codeF n tl c = true → codeOK n tl c = true := by
 fun_induction codeF n tl c with
 | case1 id ops draw => exact regF_ok
 | case2 a b h1 h2 => simp only [codeOK, Bool.and_eq_true]; exact fun h => ⟨h1 h.1, h2 h.2⟩
 | case3 x t e h1 h2 => simp only [codeOK, Bool.and_eq_true]; exact fun h => ⟨h1 h.1, h2 h.2⟩
 | case4 i c h1 => simp only [codeOK]; exact h1
 | case5 c h1 => simp only [codeOK]; exact h1
 | case6 c => exact id
theorem ret_of_Wg {E : Env} {fid : FuncId} {fn : Func} {code : Code} (tl : Nat → Nat) {args : List PV} {r : PV} (l : List (Nat × PV)) (h1 : E.P.funcs[fid]? = some fn) (h2 : fn.body = some code) (h3 : (fn.name == "runtime.NumGoroutine") = false)
  (hok : codeF fn.ntmps tl code = true) (hargs : args.length ≤ fn.ntmps) (hl : ∀ p ∈ l, args.getD p.1 .undef = p.2) (h : W E fn.ntmps tl code (pfin E fn.results.toList r) ⟨fa l, fun _ => none, 0⟩) : Ret E.P fid args r :=
 ret_of_Wf tl l h1 h2 h3 (codeF_ok code hok) hargs hl h
end Pm
set_option linter.unusedSimpArgs false
set_option linter.unusedVariables false
namespace Pm
open Go Go.RowKit
theorem W.sregLL {E : Env} {n : Nat} {tl : Nat → Nat} {Q : PX → PS → Prop} {σ : PS} {id : Nat} {ops : List Oper} {y : Code} (i : Nat) {o o2 : Oper} (ho : ops = ops.take i ++ o :: o2 :: ops.drop (i + 2)) (hg : o.guard = none) (hg2 : o2.guard = none)
  (h : ∀ K : PS → Prop, (∀ σ, W E n tl y Q σ → K σ) → go (pops E ops (ops.take i) (fun σ => litO E o (fun σ => litO E o2 (pops E ops (ops.drop (i + 2)) K) σ) σ) σ)) : W E n tl (.seq (.region id ops.toArray false) y) Q σ := by
 refine W.seq ?_
 intro hok w0 S0 G a w Q' hR hQ
 simp only [codeOK, regOK, Bool.and_eq_true] at hok
 have hd : ∀ o ∈ ops, ∀ t, o.dst = some t → t < n := fun o ho t ht => by
  have := Array.all_eq_true_iff_forall_mem.1 hok.1 o (by simpa using ho)
  simpa [ht] using this
 refine wp_region_list ?_
 show wpList E.P ops.toArray Q' ops a w
 have h1 := h (fun σ => W E n tl y Q σ) fun _ h => h
 have hmem : o ∈ ops := by rw [ho]; simp
 have hmem2 : o2 ∈ ops := by rw [ho]; simp
 have := pops_sound2 (E := E) (w0 := w0) (S0 := S0) (m := n) (G := G) (ops := ops.toArray) (Q := Q') (l2 := o :: o2 :: ops.drop (i + 2)) (K := fun σ => litO E o (fun σ => litO E o2 (pops E ops (ops.drop (i + 2)) (fun σ => W E n tl y Q σ)) σ) σ) (fun σ' a' w' hl hR' => by
  unfold wpList
  rw [if_pos (by simp [Region.wanted, hg])]
  refine .inl (litO_sound hl hR' (hd o hmem) fun σ2 a2 w2 hk hR2 => ?_)
  unfold wpList
  rw [if_pos (by simp [Region.wanted, hg2])]
  refine .inl (litO_sound hk hR2 (hd o2 hmem2) fun σ3 a3 w3 hk3 hR3 => ?_)
  exact pops_sound (E := E) (ops := ops.toArray) (fun σ4 a4 w4 hk4 hR4 => hQ .normal σ4 a4 w4 hk4 hR4) _ σ3 a3 w3 (fun o ho => hd o (List.mem_of_mem_drop ho)) hk3 hR3) (ops.take i) σ a w (fun o ho => hd o (List.mem_of_mem_take ho)) h1 hR
 rwa [← ho] at this
section
variable {E : Env} {m : Nat} {G : Gs} {w0 : World} {S0 : Stab}
def mx3 (p q r : PV) (K : PV → Prop) : Prop := ∃ k a b c, p = .int k a ∧ q = .int k b ∧ r = .int k c ∧ K (.int k (max (max a b) c))
@[simp] theorem mx3_int {k : IntKind} {a b c : Int} {K : PV → Prop} : mx3 (.int k a) (.int k b) (.int k c) K = K (.int k (max (max a b) c)) := by
 apply propext
 constructor
 ·rintro ⟨k', a', b', c', h1, h2, h3, h⟩
  cases h1; cases h2; cases h3; exact h
 ·exact fun h => ⟨k, a, b, c, rfl, rfl, rfl, h⟩
def max3O (o : Oper) (K : PS → Prop) (σ : PS) : Prop :=
 match o.op with
 | .call { callee := .builtin .max, args := ⟨[x, y, z]⟩, argTypes := _ } => mx3 (evf σ.f x) (evf σ.f y) (evf σ.f z) fun v => K (σ.put o.dst v)
 | _ => False
theorem max3O_sound {o : Oper} {a : Act} {w : World} {σ : PS} {K : PS → Prop} (h : max3O o K σ) (hR : Rel w0 S0 m G σ a w) (hd : ∀ t, o.dst = some t → t < m)
  {K' : Act → World → Prop} {Q : Exit → Act → World → Prop} (hK : ∀ σ' a' w', K σ' → Rel w0 S0 m G σ' a' w' → K' a' w') : o.wp E.P a w K' Q := by
 obtain ⟨⟨c, rfl, hr, hcl, hI, hf, hG⟩, hn, hdef⟩ := hR
 have hρ := evf_rep hf
 obtain ⟨dst, op, type, pos, after, guard⟩ := o
 simp only at hd
 unfold max3O at h
 simp only at h
 split at h
 ·rename_i x y z ts
  have g1 := hρ x
  have g2 := hρ y
  have g3 := hρ z
  ·obtain ⟨k3, a1, a2, a3, h1, h2, h3, hk⟩ := h
   rw [h1, rep_int] at g1
   rw [h2, rep_int] at g2
   rw [h3, rep_int] at g3
   have hmx : (if a3 > (if a2 > a1 then a2 else a1) then a3 else (if a2 > a1 then a2 else a1)) = max (max a1 a2) a3 := by
    by_cases q1 : a2 > a1
    ·rw [if_pos q1]; split <;> omega
    ·rw [if_neg q1]; split <;> omega
   have hrun : (execOp a.eval { dst := dst, op := .call { callee := .builtin .max, args := ⟨[x, y, z]⟩, argTypes := ts }, type := type, pos := pos, after := after, guard := guard }).run E.P c.w = .ok (.value (.int k3 (max (max a1 a2) a3))) c.w := by
    rw [← hmx]
    simp [execOp, resolve, invoke, builtin, Builtin.max_, Builtin.max2, g1, g2, g3]
   unfold Oper.wp
   rw [hrun]
   exact hK _ _ _ hk (rel_put hf hG hn hdef (Adv.refl c) hI (rep_int.2 rfl) hd rfl (by simp [PS.put, hr]) hcl)
 ·exact h.elim
end
@[simp] theorem go_max3O {K : PS → Prop} {f : Nat → PV} {rows : Rows} {clk : Nat} {d : Option Tmp} {ty : TypeId} {pos : String} {af : Array Edge} {ts : Array TypeId} {x y z : Operand} :
  max3O ⟨d, .call { callee := .builtin .max, args := ⟨[x, y, z]⟩, argTypes := ts }, ty, pos, af, none⟩ K ⟨f, rows, clk⟩ = mx3 (evf f x) (evf f y) (evf f z) fun v => K ⟨put f d v, rows, clk⟩ := rfl
theorem W.sregM {E : Env} {n : Nat} {tl : Nat → Nat} {Q : PX → PS → Prop} {σ : PS} {id : Nat} {ops : List Oper} {y : Code} (i : Nat) {o : Oper} (ho : ops = ops.take i ++ o :: ops.drop (i + 1)) (hg : o.guard = none)
  (h : ∀ K : PS → Prop, (∀ σ, W E n tl y Q σ → K σ) → go (pops E ops (ops.take i) (fun σ => max3O o (pops E ops (ops.drop (i + 1)) K) σ) σ)) : W E n tl (.seq (.region id ops.toArray false) y) Q σ := by
 refine W.seq ?_
 intro hok w0 S0 G a w Q' hR hQ
 simp only [codeOK, regOK, Bool.and_eq_true] at hok
 have hd : ∀ o ∈ ops, ∀ t, o.dst = some t → t < n := fun o ho t ht => by
  have := Array.all_eq_true_iff_forall_mem.1 hok.1 o (by simpa using ho)
  simpa [ht] using this
 refine wp_region_list ?_
 show wpList E.P ops.toArray Q' ops a w
 have h1 := h (fun σ => W E n tl y Q σ) fun _ h => h
 have hmem : o ∈ ops := by rw [ho]; simp
 have := pops_sound2 (E := E) (w0 := w0) (S0 := S0) (m := n) (G := G) (ops := ops.toArray) (Q := Q') (l2 := o :: ops.drop (i + 1)) (K := fun σ => max3O o (pops E ops (ops.drop (i + 1)) (fun σ => W E n tl y Q σ)) σ) (fun σ' a' w' hl hR' => by
  unfold wpList
  rw [if_pos (by simp [Region.wanted, hg])]
  refine .inl (max3O_sound hl hR' (hd o hmem) fun σ2 a2 w2 hk hR2 => ?_)
  exact pops_sound (E := E) (ops := ops.toArray) (fun σ3 a3 w3 hk3 hR3 => hQ .normal σ3 a3 w3 hk3 hR3) _ σ2 a2 w2 (fun o ho => hd o (List.mem_of_mem_drop ho)) hk hR2) (ops.take i) σ a w (fun o ho => hd o (List.mem_of_mem_take ho)) h1 hR
 rwa [← ho] at this
end Pm
namespace Go.Proofs.YtdiladmkbpnhoaaGreat
open Go Pm
theorem rFromS {v : Int} (h : sz 2 v ≤ 1000) : Ret env.P 40 [I v] (RI v) := by
 have := rFrom_ret (decide (v < 0)) (dig LL v.natAbs) (by
  have h1 : sz LL v ≤ sz 2 v := szL' v
  show sz LL v ≤ _
  omega) (Lim_dig hLL _)
 rwa [iv_I] at this
theorem ladd_ret {v d u : Int} (hv : sz 2 v ≤ 100) (hd : sz 2 d ≤ 100) (hu : -10 ≤ u ∧ u ≤ 10) : Ret env.P 31 [I v, I d, .int .i64 u] (I (v + d * u)) := by
 have su : sz 2 u ≤ 4 := sz_le (by decide) (by show u.natAbs < 2 ^ 4; omega)
 have sm : sz 2 (d * u) ≤ 104 := sz_mul (b := 2) (by decide) hd su
 have sa : sz 2 (v + d * u) ≤ 105 := sz_add (b := 2) (by decide) (Nat.le_trans hv (by decide)) sm
 have f1 := rFromS (v := v) (by omega)
 have f2 := rFromS (v := d) (by omega)
 have f3 := rOf_ret u (by omega) (by omega)
 have f4 := rMul_ret d u (Nat.lt_of_le_of_lt hd (by decide)) (Nat.lt_of_le_of_lt su (by decide))
 have f5 := rAdd_ret v (d * u) (Nat.lt_of_le_of_lt hv (by decide)) (Nat.lt_of_le_of_lt sm (by decide))
 have f6 := rTo_ret (v + d * u) (Nat.lt_of_le_of_lt sa (by decide))
 generalize v + d * u = r at *
 generalize d * u = m at *
 refine ret_of_Wf (E := env) (fun _ => 0) [(0, I v), (1, I d), (2, .int .i64 u)] Tryz.func31 rfl (by kernel_rfl) (by kernel_rfl) (show 3 ≤ 16 by decide) (by simp) ?_
 refine W.sreg (fun K hK => ?_); simp (disch := omega) [gA, wA]; refine W.lv [2, 3, 4, 6] hK fun J j => ?_; clear hK K; simp; refine j _ ?_; clear j J
 refine W.sdrw (fun K hK => ?_)
 simp (disch := omega) [gA, wA]
 refine callR f1 ?_
 simp (disch := omega) [gA, wA]
 refine callR f2 ?_
 simp (disch := omega) [gA, wA]
 refine callR f3 ?_
 simp (disch := omega) [gA, wA]
 refine callR f4 ?_
 simp (disch := omega) [gA, wA]
 refine callR f5 ?_
 simp (disch := omega) [gA, wA]
 refine callR f6 ?_
 simp (disch := omega) [gA, wA]
 (try (refine stepTxt (of_decide_eq_true (by kernel_rfl)) ?_)); (try simp (maxSteps := 4000000) (disch := omega) [gA, wA]); (repeat rw [if_pos (by kernel_rfl)]); (try simp (maxSteps := 4000000) (disch := omega) [gA, wA])
 refine W.lv [6] hK fun J j => ?_; clear hK K; simp; refine j _ ?_; clear j J
 refine W.ret ?_
 simp [go]
end Go.Proofs.YtdiladmkbpnhoaaGreat
namespace Go.Proofs.YtdiladmkbpnhoaaGreat
open Go Pm
@[simp] theorem fzV_rd' {rows : Pm.Rows} {id : Nat} {l : List PV} : fzV rows id (.rd l) = .rd l := rfl
theorem ite_app {c : Prop} [Decidable c] {f g : Pm.Rows} {j : Nat} : (if c then f else g) j = if c then f j else g j := by split <;> rfl
def mvf (x : List Int) (e : Int) (i : Nat) : Int := if i = 0 then nth x i + e else nth x i
def mvx (x : List Int) (n : Nat) (e : Int) : List Int := (List.range n).map (mvf x e)
def mvN (v : CV) : Nat := max (max v.x.length v.y.length) 1
theorem mvx_succ (x : List Int) (n : Nat) (e : Int) : mvx x (n + 1) e = mvx x n e ++ [mvf x e n] := by simp [mvx, List.range_succ]
theorem mvx_len (x : List Int) (n : Nat) (e : Int) : (mvx x n e).length = n := by simp [mvx]
theorem row_ie0 : All2 (All2 fun q p => Wk p q) [ie 0] [[.bool false, .nil]] := ⟨⟨.inl rfl, .inr ⟨rfl, rfl⟩, trivial⟩, trivial⟩
set_option maxHeartbeats 4000000 in
theorem move_ret {v : CV} (h : v.Sz 32 3) {u w : Int} (hu : -10 ≤ u ∧ u ≤ 10) (hw : -10 ≤ w ∧ w ≤ 10) :
  Ret env.P 30 [.int .i64 u, .int .i64 w, .rd v.cells] (.ag [Po (mvx v.x (mvN v) (v.d * u)), Po (mvx v.y (mvN v) (v.d * w)), .bool (decide (v.d < 0)), sls u32 (dig LL v.d.natAbs)]) := by
 have ax : ∀ i, i = 0 → Ret env.P 31 [I (nth v.x i), I v.d, .int .i64 u] (I (mvf v.x (v.d * u) i)) := fun i hi => by
  unfold mvf; rw [if_pos hi]
  exact ladd_ret (by
   rcases Nat.lt_or_ge i v.x.length with h1 | h1
   ·exact Nat.le_trans (h.x2.sz _ (nth_mem h1)) (by decide)
   ·rw [nth_ge h1]; decide) (Nat.le_trans h.d2 (by decide)) hu
 have ay : ∀ i, i = 0 → Ret env.P 31 [I (nth v.y i), I v.d, .int .i64 w] (I (mvf v.y (v.d * w) i)) := fun i hi => by
  unfold mvf; rw [if_pos hi]
  exact ladd_ret (by
   rcases Nat.lt_or_ge i v.y.length with h1 | h1
   ·exact Nat.le_trans (h.y2.sz _ (nth_mem h1)) (by decide)
   ·rw [nth_ge h1]; decide) (Nat.le_trans h.d2 (by decide)) hw
 have bx : ∀ i, ¬ i = 0 → mvf v.x (v.d * u) i = nth v.x i := fun i hi => if_neg hi
 have by_ : ∀ i, ¬ i = 0 → mvf v.y (v.d * w) i = nth v.y i := fun i hi => if_neg hi
 have gx : ∀ i, v.x.length ≤ i → nth v.x i = 0 := fun i hi => nth_ge hi
 have gy : ∀ i, v.y.length ≤ i → nth v.y i = 0 := fun i hi => nth_ge hi
 have lx := h.x2.len
 have ly := h.y2.len
 have hN : mvN v = max (max v.x.length v.y.length) 1 := rfl
 have hN3 : mvN v ≤ 3 := by omega
 have sx : ∀ n, mvx v.x (n + 1) (v.d * u) = mvx v.x n (v.d * u) ++ [mvf v.x (v.d * u) n] := fun n => mvx_succ _ _ _
 have sy : ∀ n, mvx v.y (n + 1) (v.d * w) = mvx v.y n (v.d * w) ++ [mvf v.y (v.d * w) n] := fun n => mvx_succ _ _ _
 have nx : ∀ n, (mvx v.x n (v.d * u)).length = n := fun n => mvx_len _ _ _
 have ny : ∀ n, (mvx v.y n (v.d * w)).length = n := fun n => mvx_len _ _ _
 have zx : mvx v.x 0 (v.d * u) = [] := rfl
 have zy : mvx v.y 0 (v.d * w) = [] := rfl
 generalize mvf v.x (v.d * u) = fx at *
 generalize mvf v.y (v.d * w) = fy at *
 obtain ⟨X, hX⟩ : ∃ X : Nat → List Int, X = fun n => mvx v.x n (v.d * u) := ⟨_, rfl⟩
 obtain ⟨Y, hY⟩ : ∃ Y : Nat → List Int, Y = fun n => mvx v.y n (v.d * w) := ⟨_, rfl⟩
 have eX : ∀ n, mvx v.x n (v.d * u) = X n := fun n => by rw [hX]
 have eY : ∀ n, mvx v.y n (v.d * w) = Y n := fun n => by rw [hY]
 simp only [eX, eY] at sx sy nx ny zx zy ⊢
 clear hX hY eX eY
 generalize mvN v = M at *
 simp only [CV.cells_def]
 refine ret_of_Wf (E := env) (fun _ => 0) [(0, .int .i64 u), (1, .int .i64 w), (2, .rd [Po v.x, Po v.y, .bool (decide (v.d < 0)), sls u32 (dig LL v.d.natAbs)])] Tryz.func30 rfl (by kernel_rfl) (by kernel_rfl) (show 3 ≤ 69 by decide) (by simp) ?_
 refine W.sreg (fun K hK => ?_); simp (disch := omega) [gA, wA]; refine W.lv [0, 1, 2, 5] hK fun J j => ?_; clear hK K; simp; refine j _ ?_; clear j J
 refine W.sregLL 0 rfl rfl rfl (fun K hK => ?_)
 simp (disch := omega) [gA, wA]
 refine W.lv [0, 1, 2, 5, 6, 7] hK fun J j => ?_; clear hK K; simp; refine j _ ?_; clear j J
 refine W.seq ?_
 refine W.sreg (fun K hK => ?_); simp (disch := omega) [gA, wA]; refine W.lv [0, 1, 2, 5, 6, 7, 8] hK fun J j => ?_; clear hK K; simp; refine j _ ?_; clear j J
 refine W.block ?_
 refine W.loopG (fun k σ => ∃ (i va vb v5 e5 : Nat) (L5 : List PV) (rows : Pm.Rows) (clk : Nat), σ = ⟨fa [(0, .int .i64 u), (1, .int .i64 w), (2, .rd [Po v.x, Po v.y, .bool (decide (v.d < 0)), sls u32 (dig LL v.d.natAbs)]), (5, .ptr 5 v5 0 0), (6, .own 11 va 0 i), (7, .own 12 vb 0 i), (8, .int .i64 i)], rows, clk⟩ ∧
  rows 5 = some ⟨v5, e5, 4, [L5]⟩ ∧ L5.length = 4 ∧ rows 11 = some ⟨va, 27, 2, emap ie (X i)⟩ ∧ rows 12 = some ⟨vb, 27, 2, emap ie (Y i)⟩ ∧ i + k = M) M ?_ ?_
 ·exact ⟨_, .refl, 0, 1, 2, 0, _, [.nil, .nil, .bool false, .nil], _, _, rfl, by simp; rfl, rfl, by simp [zx, emap], by simp [zy, emap], by omega⟩
 rintro k _ ⟨i, va, vb, v5, e5, L5, rows, clk, rfl, hr5, hL5, hr11, hr12, hik⟩
 refine W.seq ?_
 refine W.sregM 7 rfl rfl (fun K hK => ?_)
 simp (disch := omega) [gA, wA]
 refine W.lv [0, 1, 2, 5, 6, 7, 8, 21] hK fun J j => ?_; clear hK K; simp; refine j _ ?_; clear j J
 refine W.cond ⟨_, rfl, fun h => ?_, fun h => ?_⟩
 ·have hi : i < M := by simp at h; omega
  refine W.skip ?_
  refine W.seq ?_
  refine W.block ?_
  refine W.sreg (fun K hK => ?_); simp (disch := omega) [gA, wA]; refine W.lv [0, 1, 2, 5, 6, 7, 8, 9, 10] hK fun J j => ?_; clear hK K; simp; refine j _ ?_; clear j J
  refine W.row (id := 9) [ie 0] (by simp; try (first | exact rfl | exact ⟨rfl, rfl⟩ | exact ⟨rfl, rfl, rfl⟩)) row_ie0 ?_
  refine W.row (id := 10) [ie 0] (by simp; try (first | exact rfl | exact ⟨rfl, rfl⟩ | exact ⟨rfl, rfl, rfl⟩)) row_ie0 ?_
  refine W.seqJ (fun σ => ∃ (v9 v10 : Nat) (rows : Pm.Rows) (clk : Nat), σ = ⟨fa [(0, .int .i64 u), (1, .int .i64 w), (2, .rd [Po v.x, Po v.y, .bool (decide (v.d < 0)), sls u32 (dig LL v.d.natAbs)]), (5, .ptr 5 v5 0 0), (6, .own 11 va 0 i), (7, .own 12 vb 0 i), (8, .int .i64 i), (9, .ptr 9 v9 0 0), (10, .ptr 10 v10 0 0)], rows, clk⟩ ∧ rows 5 = some ⟨v5, e5, 4, [L5]⟩ ∧ rows 11 = some ⟨va, 27, 2, emap ie (X i)⟩ ∧ rows 12 = some ⟨vb, 27, 2, emap ie (Y i)⟩ ∧ rows 9 = some ⟨v9, 27, 2, [ie (nth v.x i)]⟩ ∧ rows 10 = some ⟨v10, 27, 2, [ie 0]⟩) ?_ ?_
  ·refine W.sreg (fun K hK => ?_); simp (disch := omega) [gA, wA]; refine W.lv [0, 1, 2, 5, 6, 7, 8, 9, 10, 28] hK fun J j => ?_; clear hK K; simp; refine j _ ?_; clear j J
   refine W.cond ⟨_, rfl, fun h => ?_, fun h => ?_⟩
   ·have hx : i < v.x.length := by simp at h; omega
    refine W.reg (fun K hK => ?_); simp (disch := omega) [gA, wA, hx]
    exact hK _ ⟨_, Gh_fa _ [0, 1, 2, 5, 6, 7, 8, 9, 10], _, _, _, _, rfl, by simp [hr5], by simp [hr11], by simp [hr12], by simp [ie]; try (first | exact rfl | exact ⟨rfl, rfl⟩ | exact ⟨rfl, rfl, rfl⟩), by simp; try (first | exact rfl | exact ⟨rfl, rfl⟩ | exact ⟨rfl, rfl, rfl⟩)⟩
   ·have hx : v.x.length ≤ i := by simp at h; omega
    rw [gx i hx]
    refine W.skip ?_
    exact ⟨_, Gh_fa _ [0, 1, 2, 5, 6, 7, 8, 9, 10], _, _, _, _, rfl, by simp [hr5], by simp [hr11], by simp [hr12], by simp; try (first | exact rfl | exact ⟨rfl, rfl⟩ | exact ⟨rfl, rfl, rfl⟩), by simp; try (first | exact rfl | exact ⟨rfl, rfl⟩ | exact ⟨rfl, rfl, rfl⟩)⟩
  clear hr5 hr11 hr12 rows clk
  rintro _ ⟨v9, v10, rows, clk, rfl, hr5, hr11, hr12, hr9, hr10⟩
  refine W.seqJ (fun σ => ∃ (v9 v10 : Nat) (rows : Pm.Rows) (clk : Nat), σ = ⟨fa [(0, .int .i64 u), (1, .int .i64 w), (2, .rd [Po v.x, Po v.y, .bool (decide (v.d < 0)), sls u32 (dig LL v.d.natAbs)]), (5, .ptr 5 v5 0 0), (6, .own 11 va 0 i), (7, .own 12 vb 0 i), (8, .int .i64 i), (9, .ptr 9 v9 0 0), (10, .ptr 10 v10 0 0)], rows, clk⟩ ∧ rows 5 = some ⟨v5, e5, 4, [L5]⟩ ∧ rows 11 = some ⟨va, 27, 2, emap ie (X i)⟩ ∧ rows 12 = some ⟨vb, 27, 2, emap ie (Y i)⟩ ∧ rows 9 = some ⟨v9, 27, 2, [ie (nth v.x i)]⟩ ∧ rows 10 = some ⟨v10, 27, 2, [ie (nth v.y i)]⟩) ?_ ?_
  ·refine W.sreg (fun K hK => ?_); simp (disch := omega) [gA, wA]; refine W.lv [0, 1, 2, 5, 6, 7, 8, 9, 10, 38] hK fun J j => ?_; clear hK K; simp; refine j _ ?_; clear j J
   refine W.cond ⟨_, rfl, fun h => ?_, fun h => ?_⟩
   ·have hx : i < v.y.length := by simp at h; omega
    refine W.reg (fun K hK => ?_); simp (disch := omega) [gA, wA, hx, hr10]
    exact hK _ ⟨_, Gh_fa _ [0, 1, 2, 5, 6, 7, 8, 9, 10], _, _, _, _, rfl, by simp [hr5], by simp [hr11], by simp [hr12], by simp [hr9]; try exact rfl, by simp [ie]; try (first | exact rfl | exact ⟨rfl, rfl⟩ | exact ⟨rfl, rfl, rfl⟩)⟩
   ·have hx : v.y.length ≤ i := by simp at h; omega
    rw [gy i hx]
    refine W.skip ?_
    exact ⟨_, Gh_fa _ [0, 1, 2, 5, 6, 7, 8, 9, 10], _, _, _, _, rfl, hr5, hr11, hr12, hr9, hr10⟩
  clear hr5 hr11 hr12 hr9 hr10 rows clk
  rintro _ ⟨v9, v10, rows, clk, rfl, hr5, hr11, hr12, hr9, hr10⟩
  refine W.seqJ (fun σ => ∃ (v9 v10 : Nat) (rows : Pm.Rows) (clk : Nat), σ = ⟨fa [(0, .int .i64 u), (1, .int .i64 w), (2, .rd [Po v.x, Po v.y, .bool (decide (v.d < 0)), sls u32 (dig LL v.d.natAbs)]), (5, .ptr 5 v5 0 0), (6, .own 11 va 0 i), (7, .own 12 vb 0 i), (8, .int .i64 i), (9, .ptr 9 v9 0 0), (10, .ptr 10 v10 0 0)], rows, clk⟩ ∧ rows 5 = some ⟨v5, e5, 4, [L5]⟩ ∧ rows 11 = some ⟨va, 27, 2, emap ie (X i)⟩ ∧ rows 12 = some ⟨vb, 27, 2, emap ie (Y i)⟩ ∧ rows 9 = some ⟨v9, 27, 2, [ie (fx i)]⟩ ∧ rows 10 = some ⟨v10, 27, 2, [ie (fy i)]⟩) ?_ ?_
  ·refine W.sreg (fun K hK => ?_); simp (disch := omega) [gA, wA]; refine W.lv [0, 1, 2, 5, 6, 7, 8, 9, 10, 45] hK fun J j => ?_; clear hK K; simp; refine j _ ?_; clear j J
   refine W.cond ⟨_, rfl, fun h => ?_, fun h => ?_⟩
   ·have hx : i = 0 := by simp at h; omega
    have cx := ax i hx
    have cy := ay i hx
    refine W.sreg (fun K hK => ?_)
    simp (disch := omega) [gA, wA, hr9]
    refine callR cx ?_
    simp (disch := omega) [gA, wA, hr9]
    refine W.lv [0, 1, 2, 5, 6, 7, 8, 9, 10] hK fun J j => ?_; clear hK K; simp; refine j _ ?_; clear j J
    refine W.reg (fun K hK => ?_)
    simp (disch := omega) [gA, wA, hr10]
    refine callR cy ?_
    simp (disch := omega) [gA, wA, hr10]
    exact hK _ ⟨_, Gh_fa _ [0, 1, 2, 5, 6, 7, 8, 9, 10], _, _, _, _, rfl, by simp [hr5], by simp [hr11], by simp [hr12], by simp [ie]; try (first | exact rfl | exact ⟨rfl, rfl⟩ | exact ⟨rfl, rfl, rfl⟩), by simp [ie]; try (first | exact rfl | exact ⟨rfl, rfl⟩ | exact ⟨rfl, rfl, rfl⟩)⟩
   ·have hx : ¬ i = 0 := by simp at h; omega
    rw [bx i hx, by_ i hx]
    refine W.skip ?_
    exact ⟨_, Gh_fa _ [0, 1, 2, 5, 6, 7, 8, 9, 10], _, _, _, _, rfl, hr5, hr11, hr12, hr9, hr10⟩
  clear hr5 hr11 hr12 hr9 hr10 rows clk
  rintro _ ⟨v9, v10, rows, clk, rfl, hr5, hr11, hr12, hr9, hr10⟩
  have h1 : (emap ie (X i)).length = i := by simp [emap, nx]
  have h2 : (emap ie (Y i)).length = i := by simp [emap, ny]
  refine W.drw (fun K hK => ?_)
  simp (disch := omega) [gA, wA, hr9, hr10, hr11, hr12, h1, h2, ite_app]
  refine W.lv [0, 1, 2, 5, 6, 7, 8] hK fun J j => ?_; clear hK K; simp; refine j _ ?_; clear j J
  refine W.reg (fun K hK => ?_); simp (disch := omega) [gA, wA]
  refine hK _ ⟨k - 1, _, Gh_fa _ [0, 1, 2, 5, 6, 7, 8], by omega, i + 1, _, _, v5, e5, L5, _, _, rfl, by simp [hr5], hL5, by simp [sx, ie, emap]; try (first | exact rfl | exact ⟨rfl, rfl⟩ | exact ⟨rfl, rfl, rfl⟩), by simp [sy, ie, emap]; try (first | exact rfl | exact ⟨rfl, rfl⟩ | exact ⟨rfl, rfl, rfl⟩), by omega⟩
 ·have hi : i = M := by simp at h; omega
  have h1 : (emap ie (X M)).length = M := by simp [emap, nx]
  have h2 : (emap ie (Y M)).length = M := by simp [emap, ny]
  have t1 : List.take M (X M) = X M := List.take_of_length_le (by rw [nx]; exact Nat.le_refl _)
  have t2 : List.take M (Y M) = Y M := List.take_of_length_le (by rw [ny]; exact Nat.le_refl _)
  rw [hi] at hr11 hr12
  rw [hi]
  refine W.exit ?_; simp only [pX, if_true, if_false, reduceIte, Nat.reduceEqDiff]
  refine W.freeze 11 (by simp [hr11]) (fun K hK => ?_)
  simp [hr11, t1]
  refine hK _ ?_; clear hK K
  refine W.freeze 12 (by simp [hr12]) (fun K hK => ?_)
  simp [hr12, t2]
  refine hK _ ?_; clear hK K
  trace_state
  refine W.sreg (fun K hK => ?_)
  simp (disch := omega) [gA, wA, hr5, hL5]
  refine W.lv [5] hK fun J j => ?_; clear hK K; simp; refine j _ ?_; clear j J
  refine W.ret ?_
  simp [go, hr5]
end Go.Proofs.YtdiladmkbpnhoaaGreat
namespace Go.Proofs.YtdiladmkbpnhoaaGreat
open Go Pm
open ZX hiding N W
def mvC (v : CV) (u w : Int) : CV := ⟨cutR (mvx v.x (mvN v) (v.d * u)), cutR (mvx v.y (mvN v) (v.d * w)), v.d⟩
def mvR (v : CV) (u w : Int) : RC := ⟨(mvx v.x (mvN v) (v.d * u)).map rw', (mvx v.y (mvN v) (v.d * w)).map rw', decide (v.d < 0), dig LL v.d.natAbs⟩
theorem mvR_cells (v : CV) (u w : Int) : (mvR v u w).cells = [Po (mvx v.x (mvN v) (v.d * u)), Po (mvx v.y (mvN v) (v.d * w)), .bool (decide (v.d < 0)), sls u32 (dig LL v.d.natAbs)] := by
 simp only [RC.cells_def, mvR, ← Po_eq]
theorem nth_mvx {x : List Int} {n : Nat} {e : Int} {i : Nat} (hi : i < n) : nth (mvx x n e) i = mvf x e i := by
 rw [nth_eq (by rw [mvx_len]; exact hi)]; simp [mvx]
theorem V_app0 (t : Int) : ∀ (x : List Int) (k : Nat), V t (x ++ List.replicate k 0) = V t x
 | [], k => by
  induction k with
  | zero => rfl
  | succ k ih => rw [List.nil_append, List.replicate_succ]; rw [List.nil_append] at ih; simp [V, ih]
 | a :: x, k => by rw [List.cons_append]; simp only [V]; rw [V_app0 t x k]
theorem V_mvx (t : Int) (x : List Int) (e : Int) : ∀ n, x.length ≤ n → 1 ≤ n → V t (mvx x n e) = V t x + e := by
 intro n hx hn
 cases n with
 | zero => omega
 | succ n =>
  cases x with
  | nil =>
   have : mvx [] (n + 1) e = e :: List.replicate n 0 := by
    unfold mvx
    rw [List.range_succ_eq_map, List.map_cons, List.map_map]
    congr 1
    ·show mvf [] e 0 = e
     unfold mvf; rw [if_pos rfl, nth_ge (by simp)]; show (0 : Int) + e = e; omega
    ·rw [List.eq_replicate_iff]
     refine ⟨by simp, fun b hb => ?_⟩
     simp only [List.mem_map, List.mem_range] at hb
     obtain ⟨i, _, rfl⟩ := hb
     show mvf [] e (i + 1) = 0
     unfold mvf; rw [if_neg (by omega), nth_ge (by simp)]; rfl
   rw [this]
   have := V_app0 t [e] n
   rw [show [e] ++ List.replicate n 0 = e :: List.replicate n 0 from rfl] at this
   rw [this]; simp [V]
  | cons a x =>
   have : mvx (a :: x) (n + 1) e = ((a + e) :: x) ++ List.replicate (n - x.length) 0 := by
    refine List.ext_getElem (by simp [mvx]; simp at hx; omega) fun i h1 h2 => ?_
    simp only [mvx, List.getElem_map, List.getElem_range]
    unfold mvf
    by_cases hi : i = 0
    ·subst hi; simp [nth]
    ·rw [if_neg hi]
     obtain ⟨j, rfl⟩ : ∃ j, i = j + 1 := ⟨i - 1, by omega⟩
     rcases Nat.lt_or_ge j x.length with h | h
     ·rw [nth_eq (by simp; exact h)]; simp [List.getElem_append, h]
     ·rw [nth_ge (by simp; exact h)]
      simp [List.getElem_append, h, Nat.not_lt.2 h]
   rw [this, V_app0]
   simp only [V]; omega
theorem V_mvC (v : CV) (u w t : Int) : V t (mvC v u w).x = V t v.x + v.d * u ∧ V t (mvC v u w).y = V t v.y + v.d * w ∧ (mvC v u w).d = v.d := by
 have hN : mvN v = max (max v.x.length v.y.length) 1 := rfl
 refine ⟨?_, ?_, rfl⟩
 ·show V t (cutR _) = _
  rw [V_cutR, V_mvx t _ _ _ (by omega) (by omega)]
 ·show V t (cutR _) = _
  rw [V_cutR, V_mvx t _ _ _ (by omega) (by omega)]
theorem mv_dvd {x : List Int} {n : Nat} {e g : Int} (hx : x.length ≤ n) (he : g ∣ e) (h : ∀ c ∈ cutR (mvx x n e), g ∣ c) : ∀ c ∈ x, g ∣ c := fun c hc => by
 obtain ⟨i, hi, rfl⟩ := List.getElem_of_mem hc
 have h1 : g ∣ nth (cutR (mvx x n e)) i := by
  rcases Nat.lt_or_ge i (cutR (mvx x n e)).length with h2 | h2
  ·exact h _ (nth_mem h2)
  ·rw [nth_ge h2]; exact Int.dvd_zero g
 rw [nth_cutR, nth_mvx (by omega)] at h1
 unfold mvf at h1
 rw [← nth_eq hi]
 split at h1
 ·exact (Int.dvd_add_left he).1 h1
 ·exact h1
theorem mvR_nc {v : CV} (hv : v.OK) (u w : Int) : (mvR v u w).nc = mvC v u w := by
 show nC (cfs ((mvx v.x (mvN v) (v.d * u)).map rw')) (cfs ((mvx v.y (mvN v) (v.d * w)).map rw')) (iv (decide (v.d < 0)) (dig LL v.d.natAbs)) = _
 rw [cfs_rwC, cfs_rwC, iv_I]
 have hN : mvN v = max (max v.x.length v.y.length) 1 := rfl
 have hp := hv.pos
 have hd : dN v.d = v.d := if_neg (by omega)
 have hg : cg (cutR (mvx v.x (mvN v) (v.d * u))) (cutR (mvx v.y (mvN v) (v.d * w))) v.d = 1 := by
  have key : (gcdL (v.d :: (cutR (mvx v.x (mvN v) (v.d * u)) ++ cutR (mvx v.y (mvN v) (v.d * w)))) : Int) ∣ 1 := by
   have h0 := gcdL_dvd (v.d :: (cutR (mvx v.x (mvN v) (v.d * u)) ++ cutR (mvx v.y (mvN v) (v.d * w))))
   generalize gcdL (v.d :: (cutR (mvx v.x (mvN v) (v.d * u)) ++ cutR (mvx v.y (mvN v) (v.d * w)))) = g at *
   have hgd : (g : Int) ∣ v.d := h0 _ (List.mem_cons_self ..)
   have k1 := mv_dvd (x := v.x) (n := mvN v) (by omega) (Int.dvd_trans hgd (Int.dvd_mul_right v.d u)) (fun c hc => h0 c (by simp [hc]))
   have k2 := mv_dvd (x := v.y) (n := mvN v) (by omega) (Int.dvd_trans hgd (Int.dvd_mul_right v.d w)) (fun c hc => h0 c (by simp [hc]))
   have h1 := dvd_gcdL (d := g) (x := v.d :: (v.x ++ v.y)) (fun c hc => by
    rcases List.mem_cons.1 hc with rfl | hc
    ·exact hgd
    ·rcases List.mem_append.1 hc with hc | hc
     ·exact k1 c hc
     ·exact k2 c hc)
   rw [hv.gcd] at h1
   exact Int.natCast_dvd_natCast.2 h1
  unfold cg
  rw [hd, if_neg (by omega)]
  have := Int.le_of_dvd (by decide) key
  have h3 : gcdL (v.d :: (cutR (mvx v.x (mvN v) (v.d * u)) ++ cutR (mvx v.y (mvN v) (v.d * w)))) ≠ 0 := fun h0 => by
   rw [h0] at key
   exact absurd (Int.zero_dvd.1 key) (by decide)
  omega
 obtain ⟨h1, h2, h3⟩ := nC_back (Cn.cut (mvx v.x (mvN v) (v.d * u))) (Cn.cut (mvx v.y (mvN v) (v.d * w))) v.d
 rw [hg] at h1 h2 h3
 simp only [Int.mul_one, List.map_id'] at h1 h2 h3
 exact CV.ext' h1 h2 (h3.trans hd)
theorem szd {v : CV} (h : v.Sz 32 3) : sz LL v.d ≤ 1 := by
 have h2 : v.d.natAbs < 2 ^ 32 := Nat.lt_of_lt_of_le (sz_lt (b := 2) (by decide) v.d) (Nat.pow_le_pow_right (by decide) h.d2)
 exact sz_le hLL (by show v.d.natAbs < 4294967296 ^ 1; omega)
theorem mvx_bd {x : List Int} {d e : Int} {n : Nat} (hx : Bd 2 32 3 x) (hd : sz 2 d ≤ 32) (he : -10 ≤ e ∧ e ≤ 10) (hn : n ≤ 3) : Bd 2 37 3 (mvx x n (d * e)) := ⟨by rw [mvx_len]; exact hn, fun c hc => by
 simp only [mvx, List.mem_map, List.mem_range] at hc
 obtain ⟨i, hi, rfl⟩ := hc
 have h1 : sz 2 (nth x i) ≤ 32 := by
  rcases Nat.lt_or_ge i x.length with h | h
  ·exact hx.sz _ (nth_mem h)
  ·rw [nth_ge h]; decide
 have h2 : sz 2 (d * e) ≤ 36 := sz_mul (b := 2) (by decide) hd (sz_le (k := 4) (by decide) (by show e.natAbs < 2 ^ 4; omega))
 unfold mvf
 split
 ·exact sz_add (b := 2) (by decide) (Nat.le_trans h1 (by decide)) h2
 ·exact Nat.le_trans h1 (by decide)⟩
theorem bd37 {x : List Int} (h : Bd 2 37 3 x) : Bd LL 2 3 x := ⟨h.len, fun c hc => sz_le hLL (by
 have := Nat.lt_of_lt_of_le (sz_lt (b := 2) (by decide) c) (Nat.pow_le_pow_right (by decide) (h.sz c hc))
 show c.natAbs < 4294967296 ^ 2
 omega)⟩
theorem mvR_OK {v : CV} (h : v.Sz 32 3) {u w : Int} (hu : -10 ≤ u ∧ u ≤ 10) (hw : -10 ≤ w ∧ w ≤ 10) : (mvR v u w).OK 2 3 := by
 have hN : mvN v = max (max v.x.length v.y.length) 1 := rfl
 have lx := h.x2.len
 have ly := h.y2.len
 have b1 := bd37 (mvx_bd (e := u) (n := mvN v) h.x2 h.d2 hu (by omega))
 have b2 := bd37 (mvx_bd (e := w) (n := mvN v) h.y2 h.d2 hw (by omega))
 refine ⟨(PB.of b1 (by decide) (by decide)).pok, (PB.of b2 (by decide) (by decide)).pok, Sz.lok (Nat.lt_of_le_of_lt (szd h) (by decide)), ?_, ?_, ?_, by decide, by decide, by decide⟩
 ·show Bd LL 2 3 (((mvx v.x (mvN v) (v.d * u)).map rw').map gv)
  rw [map_gv_rw]; exact b1
 ·show Bd LL 2 3 (((mvx v.y (mvN v) (v.d * w)).map rw').map gv)
  rw [map_gv_rw]; exact b2
 ·show sz LL (iv (decide (v.d < 0)) (dig LL v.d.natAbs)) ≤ 2
  rw [iv_I]; exact Nat.le_trans (szd h) (by decide)
theorem ev3' (t : Int) (a b c : CV) : V t (dcol 3 [rowI a, rowI b, rowI c]) = D3 (V t a.x) (V t a.y) (V t [a.d]) (V t b.x) (V t b.y) (V t [b.d]) (V t c.x) (V t c.y) (V t [c.d]) := by
 rw [V_dcol t 3 _ rfl, ← dC3]; rfl
theorem l_line (v : CV) : dcol 3 [rowI v, rowI (mvC v 1 0), rowI (mvC v 3 0)] = [] := (Cn_dcol 3 _).ext Cn.nil fun t => by
 obtain ⟨a1, a2, a3⟩ := V_mvC v 1 0 t
 obtain ⟨b1, b2, b3⟩ := V_mvC v 3 0 t
 rw [ev3', a1, a2, a3, b1, b2, b3, V_one]
 unfold D3; simp only [V]; grind
theorem l_up (v : CV) : dcol 3 [rowI v, rowI (mvC v 1 0), rowI (mvC v 0 1)] = cutR [v.d * v.d * v.d] := (Cn_dcol 3 _).ext (Cn.cut _) fun t => by
 obtain ⟨a1, a2, a3⟩ := V_mvC v 1 0 t
 obtain ⟨b1, b2, b3⟩ := V_mvC v 0 1 t
 rw [ev3', a1, a2, a3, b1, b2, b3, V_one, V_cutR, V_one]
 unfold D3; grind
theorem l_dn (v : CV) : dcol 3 [rowI (mvC v 1 0), rowI v, rowI (mvC v 0 1)] = cutR [-(v.d * v.d * v.d)] := (Cn_dcol 3 _).ext (Cn.cut _) fun t => by
 obtain ⟨a1, a2, a3⟩ := V_mvC v 1 0 t
 obtain ⟨b1, b2, b3⟩ := V_mvC v 0 1 t
 rw [ev3', a1, a2, a3, b1, b2, b3, V_one, V_cutR, V_one]
 unfold D3; grind
theorem l_rt (v : CV) : psub (pscale (mvC v 1 0).x v.d) (pscale v.x (mvC v 1 0).d) = cutR [v.d * v.d] := (Cn.psub _ _).ext (Cn.cut _) fun t => by
 obtain ⟨a1, a2, a3⟩ := V_mvC v 1 0 t
 rw [V_psub, V_pscale, V_pscale, a1, a3, V_cutR, V_one]; grind
theorem l_ab (v : CV) : psub (pscale (mvC v 0 1).y v.d) (pscale v.y (mvC v 0 1).d) = cutR [v.d * v.d] := (Cn.psub _ _).ext (Cn.cut _) fun t => by
 obtain ⟨a1, a2, a3⟩ := V_mvC v 0 1 t
 rw [V_psub, V_pscale, V_pscale, a2, a3, V_cutR, V_one]; grind
theorem l_a0 (v : CV) : psub (pscale (mvC v 3 0).y v.d) (pscale v.y (mvC v 3 0).d) = [] := (Cn.psub _ _).ext Cn.nil fun t => by
 obtain ⟨a1, a2, a3⟩ := V_mvC v 3 0 t
 rw [V_psub, V_pscale, V_pscale, a2, a3]; simp only [V]; grind
theorem l_far (v : CV) : farD v (mvC v 1 0) v (mvC v 3 0) = cutR [8 * (v.d * v.d * (v.d * v.d)) * (v.d * v.d * (v.d * v.d))] := by
 unfold farD apt apR apA
 refine (Cn.psub _ _).ext (Cn.cut _) fun t => ?_
 obtain ⟨a1, a2, a3⟩ := V_mvC v 1 0 t
 obtain ⟨b1, b2, b3⟩ := V_mvC v 3 0 t
 simp only [V_psub, V_pscale, V_padd, V_pmul, a1, a2, a3, b1, b2, b3, V_cutR, V_one]
 grind
theorem aft_cn (n d c : Int) : aft n d (of [c]) = c.sign := by
 by_cases h : c = 0
 ·subst h
  show aftF n d (ZX.N (of [0])) (of [0]) = _
  rw [show (of [0] : ZX) = 0 from ZX.ext fun t => rfl, aftF_zero]; rfl
 ·have hl : (of [c] : ZX).l = [c] := cutR_ne h []
  have hN : ZX.N (of [c]) = 1 := by show (of [c]).l.length = 1; rw [hl]; rfl
  have hs : sgA (of [c]).l n d = c.sign := by
   rw [hl]
   show (0 * n + c * 1 : Int).sign = _
   rw [Int.mul_one, Int.zero_mul, Int.zero_add]
  unfold aft
  rw [hN, aftF, hs, if_neg (fun h0 => h (Int.sign_eq_zero_iff_zero.1 h0))]
end Go.Proofs.YtdiladmkbpnhoaaGreat
namespace Go.Proofs.YtdiladmkbpnhoaaGreat
open Go Pm
open ZX hiding N W
theorem cMake0_ret {c : RC} {s n : Nat} (h : c.OK s n) (h0 : iv c.s c.l = 0) : Ret env.P 29 [Pg c.x, Pg c.y, IV c.s c.l] (.tup [.ag [Pg [], Pg [], .bool false, sls u32 []], .int .i64 2]) := by
 have p1 := wNorm_ret c.s c.l h.hl
 have z0 := ZeroI_ret (iv c.s c.l)
 rw [decide_eq_true h0] at z0
 generalize iv c.s c.l = d at *
 obtain ⟨x, y, sg, l⟩ := c
 simp only [RC.cells_def, CV.cells_def] at *
 refine ret_of_Wf (E := env) (fun _ => 0) [(0, Pg x), (1, Pg y), (2, IV sg l)] Tryz.func29 rfl (by kernel_rfl) (by kernel_rfl) (show 3 ≤ 17 by decide) (by simp) ?_
 refine W.sreg (fun K hK => ?_); simp (disch := omega) [gA, wA]; refine W.lv [0, 1, 5, 6, 7] hK fun J j => ?_; clear hK K; simp; refine j _ ?_; clear j J
 refine W.seq ?_
 refine W.sreg (fun K hK => ?_)
 simp (disch := omega) [gA, wA]
 refine callR p1 ?_
 simp (disch := omega) [gA, wA]
 refine callR z0 ?_
 simp (disch := omega) [gA, wA]
 refine W.lv [0, 1, 5, 6, 10] hK fun J j => ?_; clear hK K; simp; refine j _ ?_; clear j J
 refine W.cond ⟨_, rfl, fun h => ?_, fun h => ?_⟩
 ·refine W.sreg (fun K hK => ?_); simp (disch := omega) [gA, wA]; refine W.lv [6, 7] hK fun J j => ?_; clear hK K; simp; refine j _ ?_; clear j J
  refine W.ret ?_
  simp [go]
  exact ⟨rfl, rfl⟩
 ·cases h
theorem lS_ret {q : List Int} {s k : Nat} {n d : Int} (cq : Cn q) (b : Bd 2 s k q) (hk : k ≤ 31) (hs : s ≤ 1000000) (hn : sz 2 n ≤ 16) (hd : sz 2 d ≤ 16) (x : List Int) (C : List ZX) : Ret env.P 32 [Po q, .rd [PI x, sls zq C, sls i64e (dig DD n.natAbs), .bool (decide (n < 0)), sls i64e (dig DD d.natAbs), .bool (decide (d < 0)), sls i64e (dig DD n.natAbs), .bool (decide (n < 0)), sls i64e (dig DD d.natAbs), .bool (decide (d < 0))]] (.int .i64 (aft n d (of q))) := by
 have e : (of q).l = q := cq
 have f1 := qFromI_ret cq (bdL' b) (by omega) (by omega)
 have a1 := After_pt (x := x) (C := C) (n := n) (d := d) (p := of q) (s := s) (k := k) (by show Bd 2 s k (of q).l; rw [e]; exact b) hk hs hn hd
 rw [e] at a1
 unfold AP at a1
 generalize aft n d (of q) = r at *
 refine ret_of_Wf (E := env) (fun _ => 0) [(0, Po q), (1, .rd [PI x, sls zq C, sls i64e (dig DD n.natAbs), .bool (decide (n < 0)), sls i64e (dig DD d.natAbs), .bool (decide (d < 0)), sls i64e (dig DD n.natAbs), .bool (decide (n < 0)), sls i64e (dig DD d.natAbs), .bool (decide (d < 0))])] Tryz.func32 rfl (by kernel_rfl) (by kernel_rfl) (show 2 ≤ 8 by decide) (by simp) ?_
 refine W.sreg (fun K hK => ?_); simp (disch := omega) [gA, wA]; refine W.lv [0, 1] hK fun J j => ?_; clear hK K; simp; refine j _ ?_; clear j J
 refine W.sdrw (fun K hK => ?_)
 simp (disch := omega) [gA, wA]
 refine callR f1 ?_
 simp (disch := omega) [gA, wA]
 refine callR a1 ?_
 simp (disch := omega) [gA, wA]
 refine W.lv [3] hK fun J j => ?_; clear hK K; simp; refine j _ ?_; clear j J
 refine W.ret ?_
 simp [go]
theorem lK_ret {c : Int} {s : Nat} {n d : Int} (hc : sz 2 c ≤ s) (hs : s ≤ 1000000) (hn : sz 2 n ≤ 16) (hd : sz 2 d ≤ 16) (x : List Int) (C : List ZX) : Ret env.P 32 [Po (cutR [c]), .rd [PI x, sls zq C, sls i64e (dig DD n.natAbs), .bool (decide (n < 0)), sls i64e (dig DD d.natAbs), .bool (decide (d < 0)), sls i64e (dig DD n.natAbs), .bool (decide (n < 0)), sls i64e (dig DD d.natAbs), .bool (decide (d < 0))]] (.int .i64 c.sign) := by
 have := lS_ret (q := cutR [c]) (s := s) (k := 1) (Cn.cut _) (Bd.cut ⟨by simp, fun v hv => by
  simp only [List.mem_cons, List.not_mem_nil, or_false] at hv
  subst hv; exact hc⟩) (by decide) hs hn hd x C
 rwa [show (of (cutR [c]) : ZX) = of [c] from ZX.ext fun t => by rw [v_of, v_of, V_cutR], aft_cn] at this
theorem sml_bd2 (n d : Int) : (sml n d).num.natAbs < 65536 ∧ ((sml n d).den : Int).natAbs < 65536 := by
 have h1 := Int.emod_nonneg n (show (61 : Int) ≠ 0 by decide)
 have h2 := Int.emod_lt_of_pos n (show (0 : Int) < 61 by decide)
 have h3 := Int.emod_nonneg d (show (6 : Int) ≠ 0 by decide)
 have h4 := Int.emod_lt_of_pos d (show (0 : Int) < 6 by decide)
 unfold sml
 rw [qmk_num _ _ (by omega), qmk_den _ _ (by omega)]
 rw [if_neg (by omega), if_neg (by omega)]
 refine ⟨Nat.lt_of_le_of_lt (Int.natAbs_ediv_le_natAbs _ _) (by omega), Nat.lt_of_le_of_lt (Int.natAbs_ediv_le_natAbs _ _) (by omega)⟩
@[simp] theorem fzV_fn2 {rows : Pm.Rows} {id f : Nat} {l : List PV} : fzV rows id (.fn f l) = .fn f l := rfl
@[simp] theorem pz_rd2 {rows : Pm.Rows} {l : List PV} : pz rows (.rd l) = .rd l := rfl
@[simp] theorem idsV_rd2 {l : List PV} : idsV (.rd l) = [] := rfl
theorem W_rows2 {E : Env} {n : Nat} {tl : Nat → Nat} {c : Code} {Q : PX → PS → Prop} {f : Nat → PV} {rows : Pm.Rows} {clk : Nat} (l : List Nat) (h : ∀ R : Pm.Rows, (∀ i ∈ l, R i = rows i) → W E n tl c Q ⟨f, R, clk⟩) : W E n tl c Q ⟨f, rows, clk⟩ := h rows fun _ _ => rfl
set_option maxRecDepth 20000 in
set_option maxHeartbeats 8000000 in
theorem PredLines_ret (l : List PT) (n0 d0 : Int) (h : ∀ p ∈ l, p.In) (hl : l.length < 9223372036854775808) (hn0 : -9223372036854775808 ≤ n0 ∧ n0 < 9223372036854775808) (hd0 : -9223372036854775808 ≤ d0 ∧ d0 < 9223372036854775808) :
  Ret env.P 4 [sls ptc l, .int .i64 n0, .int .i64 d0] (.bool true) := by
 have F := four_ret l h hl
 have k0 := fourC_small h 0
 generalize fourC l 0 = c0 at *
 generalize fourC l 1 = c1 at *
 generalize fourC l 2 = c2 at *
 generalize fourC l 3 = c3 at *
 have e0 := k0.ok
 have z0 := Sz31 k0
 have v0 : c0.nc.OK := c0.nc_OK
 have sm := Small_ret n0 d0 hn0 hd0
 rw [RR_R2] at sm
 obtain ⟨b1, b2⟩ := sml_bd2 n0 d0
 have b3 : ((sml n0 d0).den : Int) ≠ 0 := by have := (sml n0 d0).den_pos; omega
 generalize (sml n0 d0).num = N at *
 generalize ((sml n0 d0).den : Int) = D at *
 obtain ⟨CC, rt⟩ := Rational_ret b1 b2 b3
 have bn : sz 2 N ≤ 16 := sz_le (by decide) b1
 have bd : sz 2 D ≤ 16 := sz_le (by decide) b2
 have m1 := move_ret z0 (u := 1) (w := 0) (by decide) (by decide)
 have m2 := move_ret z0 (u := 3) (w := 0) (by decide) (by decide)
 have m3 := move_ret z0 (u := 0) (w := 1) (by decide) (by decide)
 rw [← mvR_cells] at m1 m2 m3
 have K0 : c0.nc.rc.OK 2 3 := by
  refine ⟨(PB.of (bdL' z0.x2) (by decide) (by decide)).pok, (PB.of (bdL' z0.y2) (by decide) (by decide)).pok, Sz.lok (Nat.lt_of_le_of_lt (szd z0) (by decide)), ?_, ?_, ?_, by decide, by decide, by decide⟩
  ·show Bd LL 2 3 ((c0.nc.x.map rw').map gv)
   rw [map_gv_rw]; exact bd37 (z0.x2.mono (by decide) (by decide))
  ·show Bd LL 2 3 ((c0.nc.y.map rw').map gv)
   rw [map_gv_rw]; exact bd37 (z0.y2.mono (by decide) (by decide))
  ·show sz LL (iv (decide (c0.nc.d < 0)) (dig LL c0.nc.d.natAbs)) ≤ 2
   rw [iv_I]; exact Nat.le_trans (szd z0) (by decide)
 have hnc : c0.nc.rc.nc = c0.nc := by
  rw [CV.rc_nc, show cutR c0.nc.x = c0.nc.x from v0.cx, show cutR c0.nc.y = c0.nc.y from v0.cy]
  have hp := v0.pos
  have hd : dN c0.nc.d = c0.nc.d := if_neg (by omega)
  have hg : cg c0.nc.x c0.nc.y c0.nc.d = 1 := by
   unfold cg
   rw [hd, if_neg (by omega), v0.gcd]; rfl
  obtain ⟨h1, h2, h3⟩ := nC_back v0.cx v0.cy c0.nc.d
  rw [hg] at h1 h2 h3
  simp only [Int.mul_one, List.map_id'] at h1 h2 h3
  exact CV.ext' h1 h2 (h3.trans hd)
 have B := mvR_OK z0 (u := 1) (w := 0) (by decide) (by decide)
 have Cc := mvR_OK z0 (u := 3) (w := 0) (by decide) (by decide)
 have U := mvR_OK z0 (u := 0) (w := 1) (by decide) (by decide)
 have o1 := pOrient_ret K0 B Cc (by decide) (by decide) (by decide)
 have o2 := pOrient_ret K0 B U (by decide) (by decide) (by decide)
 have o3 := pOrient_ret B K0 U (by decide) (by decide) (by decide)
 have r1 := pRight_ret K0 B (by decide)
 have u1 := pAbove_ret K0 U (by decide)
 have u2 := pAbove_ret K0 Cc (by decide)
 have f1 := pFarther_ret K0 B K0 Cc (by decide) (by decide)
 rw [hnc, mvR_nc v0, mvR_nc v0, CV.rc_cells] at o1 o2 o3 f1
 rw [hnc, mvR_nc v0, CV.rc_cells] at r1 u1 u2
 rw [l_line] at o1
 rw [l_up] at o2
 rw [l_dn] at o3
 rw [l_rt] at r1
 rw [l_ab] at u1
 rw [l_a0] at u2
 rw [l_far] at f1
 have pd := v0.pos
 have q2 : sz 2 (c0.nc.d * c0.nc.d) ≤ 64 := sz_mul (b := 2) (by decide) z0.d2 z0.d2
 have q3 : sz 2 (c0.nc.d * c0.nc.d * c0.nc.d) ≤ 96 := sz_mul (b := 2) (by decide) q2 z0.d2
 have q4 : sz 2 (c0.nc.d * c0.nc.d * (c0.nc.d * c0.nc.d)) ≤ 128 := sz_mul (b := 2) (by decide) q2 q2
 have q8 : sz 2 (8 * (c0.nc.d * c0.nc.d * (c0.nc.d * c0.nc.d)) * (c0.nc.d * c0.nc.d * (c0.nc.d * c0.nc.d))) ≤ 260 := sz_mul (b := 2) (by decide) (sz_mul (b := 2) (by decide) (show sz 2 8 ≤ 4 by decide) q4) q4
 have q3' : sz 2 (-(c0.nc.d * c0.nc.d * c0.nc.d)) ≤ 96 := by unfold sz at q3 ⊢; rwa [Int.natAbs_neg]
 have p2 : 0 < c0.nc.d * c0.nc.d := Int.mul_pos pd pd
 have p3 : 0 < c0.nc.d * c0.nc.d * c0.nc.d := Int.mul_pos p2 pd
 have p4 : 0 < c0.nc.d * c0.nc.d * (c0.nc.d * c0.nc.d) := Int.mul_pos p2 p2
 have p8 : 0 < 8 * (c0.nc.d * c0.nc.d * (c0.nc.d * c0.nc.d)) * (c0.nc.d * c0.nc.d * (c0.nc.d * c0.nc.d)) := Int.mul_pos (by omega) p4
 have a1 := lK_ret q3 (by decide) bn bd [-N, D] CC
 have a2 := lK_ret q3' (by decide) bn bd [-N, D] CC
 have a3 := lK_ret q2 (by decide) bn bd [-N, D] CC
 have a5 := lK_ret q8 (by decide) bn bd [-N, D] CC
 rw [Int.sign_eq_one_of_pos p3] at a1
 rw [Int.sign_eq_neg_one_of_neg (by omega)] at a2
 rw [Int.sign_eq_one_of_pos p2] at a3
 rw [Int.sign_eq_one_of_pos p8] at a5
 have a4 := a3
 have hw := wakes14_ret
 have M1 := fun h0 => cMake_ret e0 h0
 have M0 := fun h0 => cMake0_ret e0 h0
 clear q2 q3 q4 q8 q3' p2 p3 p4 p8 pd K0 hnc B Cc U z0 v0 e0 k0 b1 b2 b3 bn bd
 generalize cutR [c0.nc.d * c0.nc.d * c0.nc.d] = P1 at *
 generalize cutR [-(c0.nc.d * c0.nc.d * c0.nc.d)] = P2 at *
 generalize cutR [c0.nc.d * c0.nc.d] = P3 at *
 generalize cutR [8 * (c0.nc.d * c0.nc.d * (c0.nc.d * c0.nc.d)) * (c0.nc.d * c0.nc.d * (c0.nc.d * c0.nc.d))] = P4 at *
 generalize mvR c0.nc 1 0 = g1 at *
 generalize mvR c0.nc 3 0 = g2 at *
 generalize mvR c0.nc 0 1 = g3 at *
 unfold AP at rt
 generalize c0.nc = y0 at *
 generalize c1.nc = y1 at *
 generalize c2.nc = y2 at *
 generalize c3.nc = y3 at *
 simp only [RC.cells_def, CV.cells_def, CV.doc_def, List.cons_append, List.nil_append] at *
 refine ret_of_Wg (E := env) (fun _ => 0) [(0, sls ptc l), (1, .int .i64 n0), (2, .int .i64 d0)] Tryz.func4 rfl (by kernel_rfl) (by kernel_rfl) (show 3 ≤ 110 by decide) (by simp) ?_
 refine W.sreg (fun K hK => ?_); simp (disch := omega) [gA, wA]; refine W.lv [0, 1, 2] hK fun J j => ?_; clear hK K; simp; refine j _ ?_; clear j J
 refine W.sreg (fun K hK => ?_)
 simp (maxSteps := 4000000) (disch := omega) [gA, wA]
 refine callR F ?_
 simp (maxSteps := 4000000) (disch := omega) [gA, wA]
 refine W.lv [1, 2, 7] hK fun J j => ?_; clear hK K; simp; refine j _ ?_; clear j J
 refine W_rows2 [7] fun R hR => ?_
 have r7 := hR 7 (by simp)
 simp at r7
 clear hR
 by_cases h0 : iv c0.s c0.l = 0
 ·have M := M0 h0
  refine W.sreg (fun K hK => ?_)
  simp (disch := omega) [gA, wA, r7]
  refine callR M ?_
  simp (disch := omega) [gA, wA, r7]
  refine W.lv [1, 2, 9, 10] hK fun J j => ?_; clear hK K; simp; refine j _ ?_; clear j J
  refine W.seq ?_
  refine W.sreg (fun K hK => ?_); simp (disch := omega) [gA, wA]; refine W.lv [1, 2, 9, 36] hK fun J j => ?_; clear hK K; simp; refine j _ ?_; clear j J
  refine W.cond ⟨_, rfl, fun h => ?_, fun h => ?_⟩
  ·refine W.sreg (fun K hK => ?_)
   simp (disch := omega) [gA, wA]
   refine callR hw ?_
   simp (disch := omega) [gA, wA]
   refine W.lv [6] hK fun J j => ?_; clear hK K; simp; refine j _ ?_; clear j J
   refine W.ret ?_
   simp [go]
  ·simp at h
 have M := M1 h0
 refine W.sreg (fun K hK => ?_)
 simp (disch := omega) [gA, wA, r7]
 refine callR M ?_
 simp (disch := omega) [gA, wA, r7]
 refine W.lv [1, 2, 9, 10] hK fun J j => ?_; clear hK K; simp; refine j _ ?_; clear j J
 refine W.seq ?_
 refine W.sreg (fun K hK => ?_); simp (disch := omega) [gA, wA]; refine W.lv [1, 2, 9, 36] hK fun J j => ?_; clear hK K; simp; refine j _ ?_; clear j J
 refine W.cond ⟨_, rfl, fun h => ?_, fun h => ?_⟩
 ·simp at h
 ·clear h
  refine W.skip ?_
  refine W_rows2 [9] fun S hS => ?_
  have s9 := hS 9 (by simp)
  simp at s9
  clear hS
  refine W.freeze 9 (by simp [s9]) (fun K hK => ?_)
  simp [s9]
  refine hK _ ?_; clear hK K
  refine W.sreg (fun K hK => ?_); simp (disch := omega) [gA, wA]; refine W.lv [1, 2, 9, 11] hK fun J j => ?_; clear hK K; simp; refine j _ ?_; clear j J
  refine W.sreg (fun K hK => ?_)
  simp (disch := omega) [gA, wA]
  refine callR sm ?_
  simp (disch := omega) [gA, wA]
  refine callR rt ?_
  simp (disch := omega) [gA, wA]
  refine W.lv [9, 11, 12] hK fun J j => ?_; clear hK K; simp; refine j _ ?_; clear j J
  refine W.sreg (fun K hK => ?_); simp (disch := omega) [gA, wA]; refine W.lv [9, 11, 13] hK fun J j => ?_; clear hK K; simp; refine j _ ?_; clear j J
  refine W.sreg (fun K hK => ?_)
  simp (disch := omega) [gA, wA]
  refine callR m1 ?_
  simp (disch := omega) [gA, wA]
  refine callR m2 ?_
  simp (disch := omega) [gA, wA]
  refine callR m3 ?_
  simp (disch := omega) [gA, wA]
  refine W.lv [9, 13, 14, 15, 16] hK fun J j => ?_; clear hK K; simp; refine j _ ?_; clear j J
  refine W_rows2 [14, 15, 16] fun T hT => ?_
  have s14 := hT 14 (by simp)
  have s15 := hT 15 (by simp)
  have s16 := hT 16 (by simp)
  simp at s14 s15 s16
  clear hT
  trace_state
  refine W.sreg (fun K hK => ?_)
  simp (maxSteps := 4000000) (disch := omega) [gA, wA, s14, s15, s16]
  refine callR o1 ?_
  simp (maxSteps := 4000000) (disch := omega) [gA, wA, s14, s15, s16]
  refine callR o2 ?_
  simp (maxSteps := 4000000) (disch := omega) [gA, wA, s14, s15, s16]
  refine callR a1 ?_
  simp (maxSteps := 4000000) (disch := omega) [gA, wA, s14, s15, s16]
  refine callR o3 ?_
  simp (maxSteps := 4000000) (disch := omega) [gA, wA, s14, s15, s16]
  refine callR a2 ?_
  simp (maxSteps := 4000000) (disch := omega) [gA, wA, s14, s15, s16]
  refine callR r1 ?_
  simp (maxSteps := 4000000) (disch := omega) [gA, wA, s14, s15, s16]
  refine callR a3 ?_
  simp (maxSteps := 4000000) (disch := omega) [gA, wA, s14, s15, s16]
  refine callR u1 ?_
  simp (maxSteps := 4000000) (disch := omega) [gA, wA, s14, s15, s16]
  refine callR a4 ?_
  simp (maxSteps := 4000000) (disch := omega) [gA, wA, s14, s15, s16]
  refine callR u2 ?_
  simp (maxSteps := 4000000) (disch := omega) [gA, wA, s14, s15, s16]
  refine callR f1 ?_
  simp (maxSteps := 4000000) (disch := omega) [gA, wA, s14, s15, s16]
  refine callR a5 ?_
  simp (maxSteps := 4000000) (disch := omega) [gA, wA, s14, s15, s16]
  refine callR hw ?_
  simp (maxSteps := 4000000) (disch := omega) [gA, wA, s14, s15, s16]
  refine W.lv [6] hK fun J j => ?_; clear hK K; simp; refine j _ ?_; clear j J
  refine W.ret ?_
  simp [go]
end Go.Proofs.YtdiladmkbpnhoaaGreat
